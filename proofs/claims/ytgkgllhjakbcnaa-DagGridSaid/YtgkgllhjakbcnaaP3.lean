/- A part of the proof: lemmas alone, no statement. -/
import Derived.Test.YtgkgllhjakbcnaaP2
import Derived.Test.YtgkgllhjakbcnaaProg
import Derived.KernelRfl
import Derived.Shelf.Sort.Plain
import Derived.Shelf.Slices.In.SortNone
import Derived.Shelf.SlSortCmp.Whole1
import Derived.Shelf.SlSortCmp.NoneTotal
set_option linter.unusedVariables false
set_option linter.unusedSimpArgs false
set_option linter.unnecessarySimpa false
set_option linter.unusedSectionVars false
namespace Go.Proofs
open Go.Ab
/-- waymark/waymarklaw10.DagTells; loop heads: [] -/
def op3_51 : List AOper := [
    ⟨(some 51), (.load true 2 (.tmp 4)), none, []⟩,
    ⟨(some 52), (.move (.tmp 1)), none, []⟩,
    ⟨(some 53), (.move (.tmp 2)), none, []⟩,
    ⟨(some 54), (.move (.tmp 3)), none, []⟩,
    ⟨(some 55), (.callF 10 [(.tmp 51), (.tmp 52), (.tmp 53), (.tmp 54)]), none, [0, 1, 2, 3]⟩,
    ⟨(some 56), (.move (.tmp 10)), none, []⟩,
    ⟨(some 57), (.bin .eql (.tmp 55) (.tmp 56)), none, [4, 5]⟩,
    ⟨(some 58), (.move (.tmp 57)), none, [6, 4]⟩,
    ⟨(some 59), (.move (.tmp 14)), (some (58, true)), [7]⟩,
    ⟨(some 60), (.move (.tmp 11)), (some (58, true)), [7]⟩,
    ⟨(some 61), (.bin .eql (.tmp 59) (.tmp 60)), (some (58, true)), [8, 9, 7]⟩,
    ⟨(some 62), (.pick (.tmp 58) (.tmp 61) (.const (.bool false))), none, [7, 10]⟩,
    ⟨(some 63), (.move (.tmp 62)), none, [11, 7]⟩,
    ⟨(some 64), (.move (.tmp 15)), (some (63, true)), [12]⟩,
    ⟨(some 65), (.move (.tmp 12)), (some (63, true)), [12]⟩,
    ⟨(some 66), (.bin .eql (.tmp 64) (.tmp 65)), (some (63, true)), [13, 14, 12]⟩,
    ⟨(some 67), (.pick (.tmp 63) (.tmp 66) (.const (.bool false))), none, [12, 15]⟩,
    ⟨(some 68), (.move (.tmp 67)), none, [16, 12]⟩,
    ⟨(some 69), (.move (.tmp 13)), (some (68, true)), [17]⟩,
    ⟨(some 70), (.move (.tmp 16)), (some (68, true)), [17]⟩,
    ⟨(some 71), (.eqBool false (.tmp 69) (.tmp 70)), (some (68, true)), [18, 19, 17]⟩,
    ⟨(some 72), (.pick (.tmp 68) (.tmp 71) (.const (.bool false))), none, [17, 20]⟩,
    ⟨(some 73), (.move (.tmp 72)), none, [21, 17]⟩,
    ⟨(some 74), (.load true 2 (.tmp 4)), (some (73, true)), [22]⟩,
    ⟨(some 75), (.move (.tmp 1)), (some (73, true)), [22]⟩,
    ⟨(some 76), (.move (.tmp 2)), (some (73, true)), [22]⟩,
    ⟨(some 77), (.move (.tmp 3)), (some (73, true)), [22]⟩,
    ⟨(some 78), (.callF 12 [(.tmp 74), (.tmp 75), (.tmp 76), (.tmp 77)]), (some (73, true)), [23, 24, 25, 26, 22, 22]⟩,
    ⟨(some 79), (.load true 2 (.tmp 4)), (some (73, true)), [22]⟩,
    ⟨(some 80), (.move (.tmp 1)), (some (73, true)), [22]⟩,
    ⟨(some 81), (.move (.tmp 2)), (some (73, true)), [22]⟩,
    ⟨(some 82), (.move (.tmp 3)), (some (73, true)), [22]⟩,
    ⟨(some 83), (.callF 13 [(.tmp 79), (.tmp 80), (.tmp 81), (.tmp 82)]), (some (73, true)), [28, 29, 30, 31, 27, 22]⟩,
    ⟨(some 84), (.callF 11 [(.tmp 78), (.tmp 83)]), (some (73, true)), [27, 32, 32, 22]⟩,
    ⟨(some 85), (.pick (.tmp 73) (.tmp 84) (.const (.bool false))), none, [22, 33]⟩,
    ⟨(some 8), (.move (.tmp 85)), none, [34, 33, 0, 1, 2, 3, 4, 5, 6, 7, 8, 9, 10, 11, 12, 13, 14, 15, 16, 17, 18, 19, 20, 21, 22, 23, 24, 25, 26, 27, 28, 29, 30, 31, 32, 33, 34]⟩]
@[go_sem ↓] theorem op3_51_run {K : AExit → Fr → Store → Prop} {fr : Fr} {σ : Store} : wp Try.prog (.reg op3_51 true [8]) K fr σ = wpOpsD Try.prog (Kreg [8] K) op3_51 (Fr.get fr) σ := wp_draw (by kernel_rfl)
def ac3 : ACode :=
  (.seq
   (.reg [
     ⟨(some 4), (.box (.tmp 0)), none, []⟩,
     ⟨(some 8), (.move (.const (.bool false))), none, []⟩] false [1, 2, 3, 4])
   (.seq
    (.reg [
      ⟨(some 17), (.callF 7 []), none, []⟩,
      ⟨(some 9), (.move (.tmp 17)), none, []⟩] false [1, 2, 3, 4, 9])
    (.seq
     (.seq
      (.reg [
        ⟨(some 18), (.move (.tmp 9)), none, []⟩,
        ⟨(some 19), (.un .not (.tmp 18)), none, []⟩,
        ⟨(some 20), (.move (.tmp 19)), none, []⟩,
        ⟨(some 21), (.fieldAddr 1 (.tmp 4)), (some (20, false)), []⟩,
        ⟨(some 22), (.load false 1 (.tmp 21)), (some (20, false)), []⟩,
        ⟨(some 23), (.lenS (.tmp 22)), (some (20, false)), []⟩,
        ⟨(some 24), (.bin .gtr (.tmp 23) (.const (.int .i64 60))), (some (20, false)), []⟩,
        ⟨(some 25), (.pick (.tmp 20) (.const (.bool true)) (.tmp 24)), none, []⟩,
        ⟨(some 26), (.move (.tmp 25)), none, []⟩,
        ⟨(some 27), (.move (.tmp 1)), (some (26, false)), []⟩,
        ⟨(some 28), (.lenS (.tmp 27)), (some (26, false)), []⟩,
        ⟨(some 29), (.bin .gtr (.tmp 28) (.const (.int .i64 200))), (some (26, false)), []⟩,
        ⟨(some 30), (.pick (.tmp 26) (.const (.bool true)) (.tmp 29)), none, []⟩] false [1, 2, 3, 4, 9, 30])
      (.cond (.tmp 30)
        (.seq
         (.reg [
           ⟨(some 31), (.move (.tmp 9)), none, []⟩,
           ⟨(some 8), (.move (.tmp 31)), none, []⟩] false [8])
         .ret)
        .skip))
     (.seq
      (.reg [
        ⟨(some 33), (.load true 2 (.tmp 4)), none, []⟩,
        ⟨(some 34), (.move (.tmp 1)), none, []⟩,
        ⟨(some 35), (.move (.tmp 2)), none, []⟩,
        ⟨(some 36), (.move (.tmp 3)), none, []⟩,
        ⟨(some 37), (.callF 8 [(.tmp 33), (.tmp 34), (.tmp 35), (.tmp 36)]), none, []⟩,
        ⟨(some 32), (.move (.tmp 37)), none, []⟩,
        ⟨(some 38), (.extract (.tmp 32) 0), none, []⟩,
        ⟨(some 39), (.extract (.tmp 32) 1), none, []⟩,
        ⟨(some 40), (.extract (.tmp 32) 2), none, []⟩,
        ⟨(some 41), (.extract (.tmp 32) 3), none, []⟩,
        ⟨(some 10), (.move (.tmp 38)), none, []⟩,
        ⟨(some 11), (.move (.tmp 39)), none, []⟩,
        ⟨(some 12), (.move (.tmp 40)), none, []⟩,
        ⟨(some 13), (.move (.tmp 41)), none, []⟩] false [1, 2, 3, 4, 10, 11, 12, 13])
      (.seq
       (.reg [
         ⟨(some 43), (.load true 2 (.tmp 4)), none, []⟩,
         ⟨(some 44), (.move (.tmp 1)), none, []⟩,
         ⟨(some 45), (.move (.tmp 2)), none, []⟩,
         ⟨(some 46), (.move (.tmp 3)), none, []⟩,
         ⟨(some 47), (.callF 9 [(.tmp 43), (.tmp 44), (.tmp 45), (.tmp 46)]), none, []⟩,
         ⟨(some 42), (.move (.tmp 47)), none, []⟩,
         ⟨(some 48), (.extract (.tmp 42) 0), none, []⟩,
         ⟨(some 49), (.extract (.tmp 42) 1), none, []⟩,
         ⟨(some 50), (.extract (.tmp 42) 2), none, []⟩,
         ⟨(some 14), (.move (.tmp 48)), none, []⟩,
         ⟨(some 15), (.move (.tmp 49)), none, []⟩,
         ⟨(some 16), (.move (.tmp 50)), none, []⟩] false [1, 2, 3, 4, 10, 11, 12, 13, 14, 15, 16])
       (.seq
        (.reg op3_51 true [8])
        .ret))))))
-- simp set: ac3, op3_51
theorem isF3 : IsFunc Try.prog 3 4 ac3 [.tmp 8] := isFunc_of _ [(0, [1, 2, 3, 4]), (1, [1, 2, 3, 4, 9]), (2, [1, 2, 3, 4, 9, 30]), (3, [8]), (4, [1, 2, 3, 4, 10, 11, 12, 13]), (5, [1, 2, 3, 4, 10, 11, 12, 13, 14, 15, 16]), (6, [8])] Try.func3 (by kernel_rfl)
/-- waymark/waymarklaw10.DagDoubles; loop heads: [[0, 1, 6, 7], [0, 1, 6, 7, 8], [0, 1, 6, 9, 10]] -/
def op4_81 : List AOper := [
    ⟨(some 81), (.load true 2 (.tmp 6)), none, []⟩,
    ⟨(some 82), (.move (.tmp 0)), none, []⟩,
    ⟨(some 83), (.bin .sub (.tmp 82) (.const (.int .i64 1))), none, [1]⟩,
    ⟨(some 84), (.callF 10 [(.tmp 81), (.const (.slice none 0 0)), (.const (.int .i64 0)), (.tmp 83)]), none, [0, 2]⟩,
    ⟨(some 85), (.move (.tmp 9)), none, []⟩,
    ⟨(some 86), (.bin .eql (.tmp 84) (.tmp 85)), none, [3, 4]⟩,
    ⟨(some 87), (.move (.tmp 86)), none, [5, 3]⟩,
    ⟨(some 88), (.move (.tmp 11)), (some (87, true)), [6]⟩,
    ⟨(some 89), (.move (.tmp 0)), (some (87, true)), [6]⟩,
    ⟨(some 90), (.bin .sub (.tmp 89) (.const (.int .i64 1))), (some (87, true)), [8, 6]⟩,
    ⟨(some 91), (.bin .eql (.tmp 88) (.tmp 90)), (some (87, true)), [7, 9, 6]⟩,
    ⟨(some 92), (.pick (.tmp 87) (.tmp 91) (.const (.bool false))), none, [6, 10]⟩,
    ⟨(some 93), (.move (.tmp 92)), none, [11, 6]⟩,
    ⟨(some 94), (.move (.tmp 12)), (some (93, true)), [12]⟩,
    ⟨(some 95), (.move (.tmp 0)), (some (93, true)), [12]⟩,
    ⟨(some 96), (.bin .sub (.tmp 95) (.const (.int .i64 1))), (some (93, true)), [14, 12]⟩,
    ⟨(some 97), (.bin .eql (.tmp 94) (.tmp 96)), (some (93, true)), [13, 15, 12]⟩,
    ⟨(some 98), (.pick (.tmp 93) (.tmp 97) (.const (.bool false))), none, [12, 16]⟩,
    ⟨(some 99), (.move (.tmp 98)), none, [17, 12]⟩,
    ⟨(some 100), (.move (.tmp 13)), (some (99, true)), [18]⟩,
    ⟨(some 101), (.pick (.tmp 99) (.tmp 100) (.const (.bool false))), none, [18, 19]⟩,
    ⟨(some 102), (.move (.tmp 101)), none, [20, 18]⟩,
    ⟨(some 103), (.load true 2 (.tmp 6)), (some (102, true)), [21]⟩,
    ⟨(some 104), (.move (.tmp 0)), (some (102, true)), [21]⟩,
    ⟨(some 105), (.bin .sub (.tmp 104) (.const (.int .i64 1))), (some (102, true)), [23, 21]⟩,
    ⟨(some 106), (.callF 12 [(.tmp 103), (.const (.slice none 0 0)), (.const (.int .i64 0)), (.tmp 105)]), (some (102, true)), [22, 24, 21, 21]⟩,
    ⟨(some 107), (.lenS (.tmp 106)), (some (102, true)), [25, 21]⟩,
    ⟨(some 108), (.fieldAddr 1 (.tmp 6)), (some (102, true)), [21]⟩,
    ⟨(some 109), (.load false 1 (.tmp 108)), (some (102, true)), [27, 21]⟩,
    ⟨(some 110), (.lenS (.tmp 109)), (some (102, true)), [28, 21]⟩,
    ⟨(some 111), (.bin .eql (.tmp 107) (.tmp 110)), (some (102, true)), [26, 29, 21]⟩,
    ⟨(some 112), (.pick (.tmp 102) (.tmp 111) (.const (.bool false))), none, [21, 30]⟩,
    ⟨(some 4), (.move (.tmp 112)), none, [31, 25, 0, 1, 2, 3, 4, 5, 6, 7, 8, 9, 10, 11, 12, 13, 14, 15, 16, 17, 18, 19, 20, 21, 22, 23, 24, 25, 26, 27, 28, 29, 30, 31]⟩]
@[go_sem ↓] theorem op4_81_run {K : AExit → Fr → Store → Prop} {fr : Fr} {σ : Store} : wp Try.prog (.reg op4_81 true [4]) K fr σ = wpOpsD Try.prog (Kreg [4] K) op4_81 (Fr.get fr) σ := wp_draw (by kernel_rfl)
def ac4 : ACode :=
  (.seq
   (.reg [
     ⟨(some 4), (.move (.const (.bool false))), none, []⟩] false [0, 1])
   (.seq
    (.reg [
      ⟨(some 14), (.callF 7 []), none, []⟩,
      ⟨(some 5), (.move (.tmp 14)), none, []⟩] false [0, 1, 5])
    (.seq
     (.seq
      (.reg [
        ⟨(some 15), (.move (.tmp 5)), none, []⟩,
        ⟨(some 16), (.un .not (.tmp 15)), none, []⟩,
        ⟨(some 17), (.move (.tmp 16)), none, []⟩,
        ⟨(some 18), (.move (.tmp 0)), (some (17, false)), []⟩,
        ⟨(some 19), (.bin .lss (.tmp 18) (.const (.int .i64 1))), (some (17, false)), []⟩,
        ⟨(some 20), (.pick (.tmp 17) (.const (.bool true)) (.tmp 19)), none, []⟩,
        ⟨(some 21), (.move (.tmp 20)), none, []⟩,
        ⟨(some 22), (.move (.tmp 0)), (some (21, false)), []⟩,
        ⟨(some 23), (.bin .gtr (.tmp 22) (.const (.int .i64 40))), (some (21, false)), []⟩,
        ⟨(some 24), (.pick (.tmp 21) (.const (.bool true)) (.tmp 23)), none, []⟩,
        ⟨(some 25), (.move (.tmp 24)), none, []⟩,
        ⟨(some 26), (.move (.tmp 1)), (some (25, false)), []⟩,
        ⟨(some 27), (.bin .lss (.tmp 26) (.const (.int .i64 1))), (some (25, false)), []⟩,
        ⟨(some 28), (.pick (.tmp 25) (.const (.bool true)) (.tmp 27)), none, []⟩,
        ⟨(some 29), (.move (.tmp 28)), none, []⟩,
        ⟨(some 30), (.move (.tmp 1)), (some (29, false)), []⟩,
        ⟨(some 31), (.bin .gtr (.tmp 30) (.const (.int .i64 3))), (some (29, false)), []⟩,
        ⟨(some 32), (.pick (.tmp 29) (.const (.bool true)) (.tmp 31)), none, []⟩,
        ⟨(some 33), (.move (.tmp 32)), none, []⟩,
        ⟨(some 34), (.move (.tmp 0)), (some (33, false)), []⟩,
        ⟨(some 35), (.bin .sub (.tmp 34) (.const (.int .i64 1))), (some (33, false)), []⟩,
        ⟨(some 36), (.move (.tmp 1)), (some (33, false)), []⟩,
        ⟨(some 37), (.bin .mul (.tmp 35) (.tmp 36)), (some (33, false)), []⟩,
        ⟨(some 38), (.bin .gtr (.tmp 37) (.const (.int .i64 120))), (some (33, false)), []⟩,
        ⟨(some 39), (.pick (.tmp 33) (.const (.bool true)) (.tmp 38)), none, []⟩] false [0, 1, 5, 39])
      (.cond (.tmp 39)
        (.seq
         (.reg [
           ⟨(some 40), (.move (.tmp 5)), none, []⟩,
           ⟨(some 4), (.move (.tmp 40)), none, []⟩] false [4])
         .ret)
        .skip))
     (.seq
      (.reg [
        ⟨(some 41), (.move (.tmp 0)), none, []⟩,
        ⟨(some 42), (.build [(.sc (.int .i64 0)), .nils] [(0, 1, (.tmp 41))]), none, []⟩,
        ⟨(some 6), (.alloc [(.sc (.int .i64 0)), .nils]), none, []⟩,
        ⟨none, (.store 2 (.tmp 6) (.tmp 42)), none, []⟩] false [0, 1, 6])
      (.seq
       (.seq
        (.reg [
          ⟨(some 7), (.move (.const (.int .i64 0))), none, []⟩] false [0, 1, 6, 7])
        (.block 0
          (.loop
            (.seq
             (.seq
              (.reg [
                ⟨(some 43), (.move (.tmp 7)), none, []⟩,
                ⟨(some 44), (.bin .add (.tmp 43) (.const (.int .i64 1))), none, []⟩,
                ⟨(some 45), (.move (.tmp 0)), none, []⟩,
                ⟨(some 46), (.bin .lss (.tmp 44) (.tmp 45)), none, []⟩] false [0, 1, 6, 7, 46])
              (.cond (.tmp 46)
                .skip
                (.exit 0)))
             (.seq
              (.block 1
                (.seq
                 (.reg [
                   ⟨(some 8), (.move (.const (.int .i64 0))), none, []⟩] false [0, 1, 6, 7, 8])
                 (.block 2
                   (.loop
                     (.seq
                      (.seq
                       (.reg [
                         ⟨(some 49), (.move (.tmp 8)), none, []⟩,
                         ⟨(some 50), (.move (.tmp 1)), none, []⟩,
                         ⟨(some 51), (.bin .lss (.tmp 49) (.tmp 50)), none, []⟩] false [0, 1, 6, 7, 8, 51])
                       (.cond (.tmp 51)
                         .skip
                         (.exit 2)))
                      (.seq
                       (.block 3
                         (.reg [
                           ⟨(some 54), (.fieldAddr 1 (.tmp 6)), none, []⟩,
                           ⟨(some 55), (.load false 1 (.tmp 54)), none, []⟩,
                           ⟨(some 56), (.move (.tmp 7)), none, []⟩,
                           ⟨(some 57), (.move (.tmp 7)), none, []⟩,
                           ⟨(some 58), (.bin .add (.tmp 57) (.const (.int .i64 1))), none, []⟩,
                           ⟨(some 59), (.build [(.sc (.int .i64 0)), (.sc (.int .i64 0)), (.sc (.int .i64 0)), (.sc (.int .i64 0))] [(0, 1, (.tmp 56)), (1, 1, (.tmp 58)), (2, 1, (.const (.int .i64 5)))]), none, []⟩,
                           ⟨(some 60), (.buildSlice 4 1 [(.sc (.int .i64 0)), (.sc (.int .i64 0)), (.sc (.int .i64 0)), (.sc (.int .i64 0))] [(0, (.tmp 59))]), none, []⟩,
                           ⟨(some 61), (.append 4 32 [(.sc (.int .i64 0)), (.sc (.int .i64 0)), (.sc (.int .i64 0)), (.sc (.int .i64 0))] (.tmp 55) (.tmp 60)), none, []⟩,
                           ⟨(some 62), (.fieldAddr 1 (.tmp 6)), none, []⟩,
                           ⟨none, (.store 1 (.tmp 62) (.tmp 61)), none, []⟩] false [0, 1, 6, 7, 8]))
                       (.reg [
                         ⟨(some 52), (.move (.tmp 8)), none, []⟩,
                         ⟨(some 53), (.bin .add (.tmp 52) (.const (.int .i64 1))), none, []⟩,
                         ⟨(some 8), (.move (.tmp 53)), none, []⟩] false [0, 1, 6, 7, 8])))))))
              (.reg [
                ⟨(some 47), (.move (.tmp 7)), none, []⟩,
                ⟨(some 48), (.bin .add (.tmp 47) (.const (.int .i64 1))), none, []⟩,
                ⟨(some 7), (.move (.tmp 48)), none, []⟩] false [0, 1, 6, 7]))))))
       (.seq
        (.reg [
          ⟨(some 9), (.move (.const (.int .i64 1))), none, []⟩] false [0, 1, 6, 9])
        (.seq
         (.seq
          (.reg [
            ⟨(some 10), (.move (.const (.int .i64 0))), none, []⟩] false [0, 1, 6, 9, 10])
          (.block 4
            (.loop
              (.seq
               (.seq
                (.reg [
                  ⟨(some 63), (.move (.tmp 10)), none, []⟩,
                  ⟨(some 64), (.bin .add (.tmp 63) (.const (.int .i64 1))), none, []⟩,
                  ⟨(some 65), (.move (.tmp 0)), none, []⟩,
                  ⟨(some 66), (.bin .lss (.tmp 64) (.tmp 65)), none, []⟩] false [0, 1, 6, 9, 10, 66])
                (.cond (.tmp 66)
                  .skip
                  (.exit 4)))
               (.seq
                (.block 5
                  (.reg [
                    ⟨(some 69), (.move (.tmp 9)), none, []⟩,
                    ⟨(some 70), (.move (.tmp 1)), none, []⟩,
                    ⟨(some 71), (.bin .mul (.tmp 69) (.tmp 70)), none, []⟩,
                    ⟨(some 72), (.callF 14 [(.tmp 71), (.const (.int .i64 0)), (.const (.int .i64 1099511627776))]), none, []⟩,
                    ⟨(some 9), (.move (.tmp 72)), none, []⟩] false [0, 1, 6, 9, 10]))
                (.reg [
                  ⟨(some 67), (.move (.tmp 10)), none, []⟩,
                  ⟨(some 68), (.bin .add (.tmp 67) (.const (.int .i64 1))), none, []⟩,
                  ⟨(some 10), (.move (.tmp 68)), none, []⟩] false [0, 1, 6, 9, 10]))))))
         (.seq
          (.reg [
            ⟨(some 74), (.load true 2 (.tmp 6)), none, []⟩,
            ⟨(some 75), (.move (.tmp 0)), none, []⟩,
            ⟨(some 76), (.bin .sub (.tmp 75) (.const (.int .i64 1))), none, []⟩,
            ⟨(some 77), (.callF 9 [(.tmp 74), (.const (.slice none 0 0)), (.const (.int .i64 0)), (.tmp 76)]), none, []⟩,
            ⟨(some 73), (.move (.tmp 77)), none, []⟩,
            ⟨(some 78), (.extract (.tmp 73) 0), none, []⟩,
            ⟨(some 79), (.extract (.tmp 73) 1), none, []⟩,
            ⟨(some 80), (.extract (.tmp 73) 2), none, []⟩,
            ⟨(some 11), (.move (.tmp 78)), none, []⟩,
            ⟨(some 12), (.move (.tmp 79)), none, []⟩,
            ⟨(some 13), (.move (.tmp 80)), none, []⟩] false [0, 6, 9, 11, 12, 13])
          (.seq
           (.reg op4_81 true [4])
           .ret)))))))))
-- simp set: ac4, op4_81
theorem isF4 : IsFunc Try.prog 4 2 ac4 [.tmp 4] := isFunc_of _ [(0, [0, 1]), (1, [0, 1, 5]), (2, [0, 1, 5, 39]), (3, [4]), (4, [0, 1, 6]), (5, [0, 1, 6, 7]), (6, [0, 1, 6, 7, 46]), (8, [0, 1, 6, 7, 8]), (9, [0, 1, 6, 7, 8, 51]), (11, [0, 1, 6, 7, 8]), (10, [0, 1, 6, 7, 8]), (7, [0, 1, 6, 7]), (12, [0, 1, 6, 9]), (13, [0, 1, 6, 9, 10]), (14, [0, 1, 6, 9, 10, 66]), (16, [0, 1, 6, 9, 10]), (15, [0, 1, 6, 9, 10]), (17, [0, 6, 9, 11, 12, 13]), (18, [4])] Try.func4 (by kernel_rfl)
/-- waymark/waymarklaw10.DagUses; loop heads: [[1, 2, 3, 4, 12, 14, 15, 16], [2, 3, 4, 14, 15, 20]] -/
def op5_113 : List AOper := [
    ⟨(some 113), (.load true 2 (.tmp 4)), none, []⟩,
    ⟨(some 114), (.move (.tmp 12)), none, []⟩,
    ⟨(some 115), (.move (.tmp 16)), none, []⟩,
    ⟨(some 116), (.indexAddrS 1 (.tmp 114) (.tmp 115)), none, [1, 2]⟩,
    ⟨(some 117), (.load false 1 (.tmp 116)), none, [3]⟩,
    ⟨(some 118), (.callF 17 [(.tmp 113), (.tmp 117)]), none, [0, 4]⟩,
    ⟨(some 112), (.move (.tmp 118)), none, [5]⟩,
    ⟨(some 119), (.extract (.tmp 112) 0), none, [6]⟩,
    ⟨(some 120), (.extract (.tmp 112) 1), none, [6]⟩,
    ⟨(some 121), (.extract (.tmp 112) 2), none, [6]⟩,
    ⟨(some 17), (.move (.tmp 119)), none, [7, 5, 0, 1, 2, 3, 4, 5, 6, 7]⟩,
    ⟨(some 18), (.move (.tmp 120)), none, [8, 10, 0, 1, 2, 3, 4, 5, 6, 7, 8, 10]⟩,
    ⟨(some 19), (.move (.tmp 121)), none, [9, 11, 0, 1, 2, 3, 4, 5, 6, 7, 8, 9, 10, 11]⟩]
@[go_sem ↓] theorem op5_113_run {K : AExit → Fr → Store → Prop} {fr : Fr} {σ : Store} : wp Try.prog (.reg op5_113 true [1, 2, 3, 4, 12, 14, 15, 16, 17, 18, 19]) K fr σ = wpOpsD Try.prog (Kreg [1, 2, 3, 4, 12, 14, 15, 16, 17, 18, 19] K) op5_113 (Fr.get fr) σ := wp_draw (by kernel_rfl)
def op5_122 : List AOper := [
    ⟨(some 122), (.move (.tmp 19)), none, []⟩,
    ⟨(some 123), (.un .not (.tmp 122)), none, [0]⟩,
    ⟨(some 124), (.move (.tmp 123)), none, [1]⟩,
    ⟨(some 125), (.move (.tmp 16)), (some (124, false)), [2]⟩,
    ⟨(some 126), (.bin .gtr (.tmp 125) (.const (.int .i64 0))), (some (124, false)), [3, 2]⟩,
    ⟨(some 127), (.move (.tmp 126)), (some (124, false)), [4, 2, 2]⟩,
    ⟨(some 128), (.move (.tmp 12)), (some (127, true)), [5]⟩,
    ⟨(some 129), (.move (.tmp 16)), (some (127, true)), [5]⟩,
    ⟨(some 130), (.indexAddrS 1 (.tmp 128) (.tmp 129)), (some (127, true)), [6, 7, 5]⟩,
    ⟨(some 131), (.load false 1 (.tmp 130)), (some (127, true)), [8, 5]⟩,
    ⟨(some 132), (.move (.tmp 12)), (some (127, true)), [5]⟩,
    ⟨(some 133), (.move (.tmp 16)), (some (127, true)), [5]⟩,
    ⟨(some 134), (.bin .sub (.tmp 133) (.const (.int .i64 1))), (some (127, true)), [11, 5]⟩,
    ⟨(some 135), (.indexAddrS 1 (.tmp 132) (.tmp 134)), (some (127, true)), [10, 12, 5]⟩,
    ⟨(some 136), (.load false 1 (.tmp 135)), (some (127, true)), [13, 5]⟩,
    ⟨(some 137), (.bin .leq (.tmp 131) (.tmp 136)), (some (127, true)), [9, 14, 5]⟩,
    ⟨(some 138), (.pick (.tmp 127) (.tmp 137) (.const (.bool false))), (some (124, false)), [5, 15, 2]⟩,
    ⟨(some 139), (.pick (.tmp 124) (.const (.bool true)) (.tmp 138)), none, [2, 16]⟩,
    ⟨(some 140), (.move (.tmp 139)), none, [17, 5]⟩,
    ⟨(some 141), (.move (.tmp 1)), (some (140, false)), [18]⟩,
    ⟨(some 142), (.move (.tmp 12)), (some (140, false)), [18]⟩,
    ⟨(some 143), (.move (.tmp 16)), (some (140, false)), [18]⟩,
    ⟨(some 144), (.indexAddrS 1 (.tmp 142) (.tmp 143)), (some (140, false)), [20, 21, 18]⟩,
    ⟨(some 145), (.load false 1 (.tmp 144)), (some (140, false)), [22, 18]⟩,
    ⟨(some 146), (.bin .quo (.tmp 145) (.const (.int .i64 2))), (some (140, false)), [23, 18]⟩,
    ⟨(some 147), (.callF 18 [(.tmp 141), (.tmp 146)]), (some (140, false)), [19, 24, 18, 18]⟩,
    ⟨(some 148), (.pick (.tmp 140) (.const (.bool true)) (.tmp 147)), none, [18, 25]⟩]
@[go_sem ↓] theorem op5_122_run {K : AExit → Fr → Store → Prop} {fr : Fr} {σ : Store} : wp Try.prog (.reg op5_122 true [1, 2, 3, 4, 12, 14, 15, 16, 17, 18, 148]) K fr σ = wpOpsD Try.prog (Kreg [1, 2, 3, 4, 12, 14, 15, 16, 17, 18, 148] K) op5_122 (Fr.get fr) σ := wp_draw (by kernel_rfl)
def op5_167 : List AOper := [
    ⟨(some 167), (.move (.tmp 20)), none, []⟩,
    ⟨(some 168), (.move (.tmp 2)), none, []⟩,
    ⟨(some 169), (.bin .neq (.tmp 167) (.tmp 168)), none, [0, 1]⟩,
    ⟨(some 170), (.move (.tmp 169)), none, [2]⟩,
    ⟨(some 171), (.move (.tmp 20)), (some (170, true)), [3]⟩,
    ⟨(some 172), (.move (.tmp 3)), (some (170, true)), [3]⟩,
    ⟨(some 173), (.bin .neq (.tmp 171) (.tmp 172)), (some (170, true)), [4, 5, 3]⟩,
    ⟨(some 174), (.pick (.tmp 170) (.tmp 173) (.const (.bool false))), none, [3, 6]⟩,
    ⟨(some 175), (.move (.tmp 174)), none, [7, 3]⟩,
    ⟨(some 176), (.move (.tmp 14)), (some (175, true)), [8]⟩,
    ⟨(some 177), (.move (.tmp 20)), (some (175, true)), [8]⟩,
    ⟨(some 178), (.indexAddrS 1 (.tmp 176) (.tmp 177)), (some (175, true)), [9, 10, 8]⟩,
    ⟨(some 179), (.load false 1 (.tmp 178)), (some (175, true)), [11, 8]⟩,
    ⟨(some 180), (.bin .gtr (.tmp 179) (.const (.int .i64 0))), (some (175, true)), [12, 8]⟩,
    ⟨(some 181), (.move (.tmp 15)), (some (175, true)), [8]⟩,
    ⟨(some 182), (.move (.tmp 20)), (some (175, true)), [8]⟩,
    ⟨(some 183), (.indexAddrS 1 (.tmp 181) (.tmp 182)), (some (175, true)), [14, 15, 8]⟩,
    ⟨(some 184), (.load false 1 (.tmp 183)), (some (175, true)), [16, 8]⟩,
    ⟨(some 185), (.bin .gtr (.tmp 184) (.const (.int .i64 0))), (some (175, true)), [17, 8]⟩,
    ⟨(some 186), (.eqBool true (.tmp 180) (.tmp 185)), (some (175, true)), [13, 18, 8]⟩,
    ⟨(some 187), (.pick (.tmp 175) (.tmp 186) (.const (.bool false))), none, [8, 19]⟩]
@[go_sem ↓] theorem op5_167_run {K : AExit → Fr → Store → Prop} {fr : Fr} {σ : Store} : wp Try.prog (.reg op5_167 true [2, 3, 4, 14, 15, 20, 187]) K fr σ = wpOpsD Try.prog (Kreg [2, 3, 4, 14, 15, 20, 187] K) op5_167 (Fr.get fr) σ := wp_draw (by kernel_rfl)
def ac5 : ACode :=
  (.seq
   (.reg [
     ⟨(some 4), (.box (.tmp 0)), none, []⟩,
     ⟨(some 8), (.move (.const (.bool false))), none, []⟩] false [1, 2, 3, 4])
   (.seq
    (.reg [
      ⟨(some 21), (.callF 7 []), none, []⟩,
      ⟨(some 9), (.move (.tmp 21)), none, []⟩] false [1, 2, 3, 4, 9])
    (.seq
     (.reg [
       ⟨(some 23), (.load true 2 (.tmp 4)), none, []⟩,
       ⟨(some 24), (.callF 15 [(.tmp 23)]), none, []⟩,
       ⟨(some 22), (.move (.tmp 24)), none, []⟩,
       ⟨(some 25), (.extract (.tmp 22) 0), none, []⟩,
       ⟨(some 26), (.extract (.tmp 22) 1), none, []⟩,
       ⟨(some 10), (.move (.tmp 25)), none, []⟩,
       ⟨(some 11), (.move (.tmp 26)), none, []⟩] false [1, 2, 3, 4, 9, 11])
     (.seq
      (.seq
       (.reg [
         ⟨(some 27), (.move (.tmp 9)), none, []⟩,
         ⟨(some 28), (.un .not (.tmp 27)), none, []⟩,
         ⟨(some 29), (.move (.tmp 28)), none, []⟩,
         ⟨(some 30), (.move (.tmp 11)), (some (29, false)), []⟩,
         ⟨(some 31), (.bin .neq (.tmp 30) (.const (.int .i64 0))), (some (29, false)), []⟩,
         ⟨(some 32), (.pick (.tmp 29) (.const (.bool true)) (.tmp 31)), none, []⟩,
         ⟨(some 33), (.move (.tmp 32)), none, []⟩,
         ⟨(some 34), (.fieldAddr 1 (.tmp 4)), (some (33, false)), []⟩,
         ⟨(some 35), (.load false 1 (.tmp 34)), (some (33, false)), []⟩,
         ⟨(some 36), (.lenS (.tmp 35)), (some (33, false)), []⟩,
         ⟨(some 37), (.bin .gtr (.tmp 36) (.const (.int .i64 60))), (some (33, false)), []⟩,
         ⟨(some 38), (.pick (.tmp 33) (.const (.bool true)) (.tmp 37)), none, []⟩,
         ⟨(some 39), (.move (.tmp 38)), none, []⟩,
         ⟨(some 40), (.move (.tmp 1)), (some (39, false)), []⟩,
         ⟨(some 41), (.lenS (.tmp 40)), (some (39, false)), []⟩,
         ⟨(some 42), (.bin .gtr (.tmp 41) (.const (.int .i64 200))), (some (39, false)), []⟩,
         ⟨(some 43), (.pick (.tmp 39) (.const (.bool true)) (.tmp 42)), none, []⟩,
         ⟨(some 44), (.move (.tmp 43)), none, []⟩,
         ⟨(some 45), (.move (.tmp 2)), (some (44, false)), []⟩,
         ⟨(some 46), (.bin .lss (.tmp 45) (.const (.int .i64 0))), (some (44, false)), []⟩,
         ⟨(some 47), (.pick (.tmp 44) (.const (.bool true)) (.tmp 46)), none, []⟩,
         ⟨(some 48), (.move (.tmp 47)), none, []⟩,
         ⟨(some 49), (.move (.tmp 2)), (some (48, false)), []⟩,
         ⟨(some 50), (.fieldAddr 0 (.tmp 4)), (some (48, false)), []⟩,
         ⟨(some 51), (.load false 1 (.tmp 50)), (some (48, false)), []⟩,
         ⟨(some 52), (.bin .geq (.tmp 49) (.tmp 51)), (some (48, false)), []⟩,
         ⟨(some 53), (.pick (.tmp 48) (.const (.bool true)) (.tmp 52)), none, []⟩,
         ⟨(some 54), (.move (.tmp 53)), none, []⟩,
         ⟨(some 55), (.move (.tmp 3)), (some (54, false)), []⟩,
         ⟨(some 56), (.bin .lss (.tmp 55) (.const (.int .i64 0))), (some (54, false)), []⟩,
         ⟨(some 57), (.pick (.tmp 54) (.const (.bool true)) (.tmp 56)), none, []⟩,
         ⟨(some 58), (.move (.tmp 57)), none, []⟩,
         ⟨(some 59), (.move (.tmp 3)), (some (58, false)), []⟩,
         ⟨(some 60), (.fieldAddr 0 (.tmp 4)), (some (58, false)), []⟩,
         ⟨(some 61), (.load false 1 (.tmp 60)), (some (58, false)), []⟩,
         ⟨(some 62), (.bin .geq (.tmp 59) (.tmp 61)), (some (58, false)), []⟩,
         ⟨(some 63), (.pick (.tmp 58) (.const (.bool true)) (.tmp 62)), none, []⟩] false [1, 2, 3, 4, 9, 63])
       (.cond (.tmp 63)
         (.seq
          (.reg [
            ⟨(some 64), (.move (.tmp 9)), none, []⟩,
            ⟨(some 8), (.move (.tmp 64)), none, []⟩] false [8])
          .ret)
         .skip))
      (.seq
       (.reg [
         ⟨(some 65), (.load true 2 (.tmp 4)), none, []⟩,
         ⟨(some 66), (.move (.tmp 1)), none, []⟩,
         ⟨(some 67), (.move (.tmp 2)), none, []⟩,
         ⟨(some 68), (.move (.tmp 3)), none, []⟩,
         ⟨(some 69), (.callF 12 [(.tmp 65), (.tmp 66), (.tmp 67), (.tmp 68)]), none, []⟩,
         ⟨(some 12), (.move (.tmp 69)), none, []⟩] false [1, 2, 3, 4, 12])
       (.seq
        (.reg [
          ⟨(some 70), (.load true 2 (.tmp 4)), none, []⟩,
          ⟨(some 71), (.move (.tmp 1)), none, []⟩,
          ⟨(some 72), (.move (.tmp 2)), none, []⟩,
          ⟨(some 73), (.move (.tmp 3)), none, []⟩,
          ⟨(some 74), (.callF 10 [(.tmp 70), (.tmp 71), (.tmp 72), (.tmp 73)]), none, []⟩,
          ⟨(some 13), (.move (.tmp 74)), none, []⟩] false [1, 2, 3, 4, 12, 13])
        (.seq
         (.seq
          (.reg [
            ⟨(some 75), (.move (.tmp 2)), none, []⟩,
            ⟨(some 76), (.move (.tmp 3)), none, []⟩,
            ⟨(some 77), (.bin .eql (.tmp 75) (.tmp 76)), none, []⟩] false [1, 2, 3, 4, 12, 13, 77])
          (.cond (.tmp 77)
            (.seq
             (.reg [
               ⟨(some 78), (.move (.tmp 12)), none, []⟩,
               ⟨(some 79), (.lenS (.tmp 78)), none, []⟩,
               ⟨(some 80), (.bin .eql (.tmp 79) (.const (.int .i64 0))), none, []⟩,
               ⟨(some 81), (.move (.tmp 80)), none, []⟩,
               ⟨(some 82), (.move (.tmp 13)), (some (81, true)), []⟩,
               ⟨(some 83), (.bin .eql (.tmp 82) (.const (.int .i64 1))), (some (81, true)), []⟩,
               ⟨(some 84), (.pick (.tmp 81) (.tmp 83) (.const (.bool false))), none, []⟩,
               ⟨(some 8), (.move (.tmp 84)), none, []⟩] false [8])
             .ret)
            .skip))
         (.seq
          (.seq
           (.reg [
             ⟨(some 85), (.move (.tmp 13)), none, []⟩,
             ⟨(some 86), (.bin .eql (.tmp 85) (.const (.int .i64 0))), none, []⟩] false [1, 2, 3, 4, 12, 86])
           (.cond (.tmp 86)
             (.seq
              (.reg [
                ⟨(some 87), (.move (.tmp 12)), none, []⟩,
                ⟨(some 88), (.lenS (.tmp 87)), none, []⟩,
                ⟨(some 89), (.bin .eql (.tmp 88) (.const (.int .i64 0))), none, []⟩,
                ⟨(some 90), (.move (.tmp 89)), none, []⟩,
                ⟨(some 91), (.load true 2 (.tmp 4)), (some (90, true)), []⟩,
                ⟨(some 92), (.move (.tmp 1)), (some (90, true)), []⟩,
                ⟨(some 93), (.move (.tmp 2)), (some (90, true)), []⟩,
                ⟨(some 94), (.callF 16 [(.tmp 91), (.tmp 92), (.tmp 93)]), (some (90, true)), []⟩,
                ⟨(some 95), (.move (.tmp 3)), (some (90, true)), []⟩,
                ⟨(some 96), (.indexAddrS 1 (.tmp 94) (.tmp 95)), (some (90, true)), []⟩,
                ⟨(some 97), (.load false 1 (.tmp 96)), (some (90, true)), []⟩,
                ⟨(some 98), (.bin .lss (.tmp 97) (.const (.int .i64 0))), (some (90, true)), []⟩,
                ⟨(some 99), (.pick (.tmp 90) (.tmp 98) (.const (.bool false))), none, []⟩,
                ⟨(some 8), (.move (.tmp 99)), none, []⟩] false [8])
              .ret)
             .skip))
          (.seq
           (.reg [
             ⟨(some 100), (.fieldAddr 0 (.tmp 4)), none, []⟩,
             ⟨(some 101), (.load false 1 (.tmp 100)), none, []⟩,
             ⟨(some 102), (.makeSlice 1 8 [(.sc (.int .i64 0))] (.tmp 101) (.tmp 101)), none, []⟩,
             ⟨(some 14), (.move (.tmp 102)), none, []⟩] false [1, 2, 3, 4, 12, 14])
           (.seq
            (.reg [
              ⟨(some 103), (.fieldAddr 0 (.tmp 4)), none, []⟩,
              ⟨(some 104), (.load false 1 (.tmp 103)), none, []⟩,
              ⟨(some 105), (.makeSlice 1 8 [(.sc (.int .i64 0))] (.tmp 104) (.tmp 104)), none, []⟩,
              ⟨(some 15), (.move (.tmp 105)), none, []⟩] false [1, 2, 3, 4, 12, 14, 15])
            (.seq
             (.seq
              (.reg [
                ⟨(some 16), (.move (.const (.int .i64 0))), none, []⟩] false [1, 2, 3, 4, 12, 14, 15, 16])
              (.block 0
                (.loop
                  (.seq
                   (.seq
                    (.reg [
                      ⟨(some 106), (.move (.tmp 16)), none, []⟩,
                      ⟨(some 107), (.move (.tmp 12)), none, []⟩,
                      ⟨(some 108), (.lenS (.tmp 107)), none, []⟩,
                      ⟨(some 109), (.bin .lss (.tmp 106) (.tmp 108)), none, []⟩] false [1, 2, 3, 4, 12, 14, 15, 16, 109])
                    (.cond (.tmp 109)
                      .skip
                      (.exit 0)))
                   (.seq
                    (.block 1
                      (.seq
                       (.reg op5_113 true [1, 2, 3, 4, 12, 14, 15, 16, 17, 18, 19])
                       (.seq
                        (.seq
                         (.reg op5_122 true [1, 2, 3, 4, 12, 14, 15, 16, 17, 18, 148])
                         (.cond (.tmp 148)
                           (.seq
                            (.reg [
                              ⟨(some 8), (.move (.const (.bool false))), none, []⟩] false [8])
                            .ret)
                           .skip))
                        (.seq
                         (.reg [
                           ⟨(some 149), (.move (.tmp 15)), none, []⟩,
                           ⟨(some 150), (.move (.tmp 17)), none, []⟩,
                           ⟨(some 151), (.indexAddrS 1 (.tmp 149) (.tmp 150)), none, []⟩,
                           ⟨(some 152), (.load false 1 (.tmp 151)), none, []⟩,
                           ⟨(some 153), (.bin .add (.tmp 152) (.const (.int .i64 1))), none, []⟩,
                           ⟨(some 154), (.indexAddrS 1 (.tmp 149) (.tmp 150)), none, []⟩,
                           ⟨none, (.store 1 (.tmp 154) (.tmp 153)), none, []⟩] false [1, 2, 3, 4, 12, 14, 15, 16, 18])
                         (.reg [
                           ⟨(some 155), (.move (.tmp 14)), none, []⟩,
                           ⟨(some 156), (.move (.tmp 18)), none, []⟩,
                           ⟨(some 157), (.indexAddrS 1 (.tmp 155) (.tmp 156)), none, []⟩,
                           ⟨(some 158), (.load false 1 (.tmp 157)), none, []⟩,
                           ⟨(some 159), (.bin .add (.tmp 158) (.const (.int .i64 1))), none, []⟩,
                           ⟨(some 160), (.indexAddrS 1 (.tmp 155) (.tmp 156)), none, []⟩,
                           ⟨none, (.store 1 (.tmp 160) (.tmp 159)), none, []⟩] false [1, 2, 3, 4, 12, 14, 15, 16])))))
                    (.reg [
                      ⟨(some 110), (.move (.tmp 16)), none, []⟩,
                      ⟨(some 111), (.bin .add (.tmp 110) (.const (.int .i64 1))), none, []⟩,
                      ⟨(some 16), (.move (.tmp 111)), none, []⟩] false [1, 2, 3, 4, 12, 14, 15, 16]))))))
             (.seq
              (.seq
               (.reg [
                 ⟨(some 20), (.move (.const (.int .i64 0))), none, []⟩] false [2, 3, 4, 14, 15, 20])
               (.block 2
                 (.loop
                   (.seq
                    (.seq
                     (.reg [
                       ⟨(some 161), (.move (.tmp 20)), none, []⟩,
                       ⟨(some 162), (.fieldAddr 0 (.tmp 4)), none, []⟩,
                       ⟨(some 163), (.load false 1 (.tmp 162)), none, []⟩,
                       ⟨(some 164), (.bin .lss (.tmp 161) (.tmp 163)), none, []⟩] false [2, 3, 4, 14, 15, 20, 164])
                     (.cond (.tmp 164)
                       .skip
                       (.exit 2)))
                    (.seq
                     (.block 3
                       (.seq
                        (.reg op5_167 true [2, 3, 4, 14, 15, 20, 187])
                        (.cond (.tmp 187)
                          (.seq
                           (.reg [
                             ⟨(some 8), (.move (.const (.bool false))), none, []⟩] false [8])
                           .ret)
                          .skip)))
                     (.reg [
                       ⟨(some 165), (.move (.tmp 20)), none, []⟩,
                       ⟨(some 166), (.bin .add (.tmp 165) (.const (.int .i64 1))), none, []⟩,
                       ⟨(some 20), (.move (.tmp 166)), none, []⟩] false [2, 3, 4, 14, 15, 20]))))))
              (.seq
               (.reg [
                 ⟨(some 188), (.move (.tmp 14)), none, []⟩,
                 ⟨(some 189), (.move (.tmp 2)), none, []⟩,
                 ⟨(some 190), (.indexAddrS 1 (.tmp 188) (.tmp 189)), none, []⟩,
                 ⟨(some 191), (.load false 1 (.tmp 190)), none, []⟩,
                 ⟨(some 192), (.bin .eql (.tmp 191) (.const (.int .i64 0))), none, []⟩,
                 ⟨(some 193), (.move (.tmp 192)), none, []⟩,
                 ⟨(some 194), (.move (.tmp 15)), (some (193, true)), []⟩,
                 ⟨(some 195), (.move (.tmp 3)), (some (193, true)), []⟩,
                 ⟨(some 196), (.indexAddrS 1 (.tmp 194) (.tmp 195)), (some (193, true)), []⟩,
                 ⟨(some 197), (.load false 1 (.tmp 196)), (some (193, true)), []⟩,
                 ⟨(some 198), (.bin .eql (.tmp 197) (.const (.int .i64 0))), (some (193, true)), []⟩,
                 ⟨(some 199), (.pick (.tmp 193) (.tmp 198) (.const (.bool false))), none, []⟩,
                 ⟨(some 200), (.move (.tmp 199)), none, []⟩,
                 ⟨(some 201), (.move (.tmp 15)), (some (200, true)), []⟩,
                 ⟨(some 202), (.move (.tmp 2)), (some (200, true)), []⟩,
                 ⟨(some 203), (.indexAddrS 1 (.tmp 201) (.tmp 202)), (some (200, true)), []⟩,
                 ⟨(some 204), (.load false 1 (.tmp 203)), (some (200, true)), []⟩,
                 ⟨(some 205), (.bin .gtr (.tmp 204) (.const (.int .i64 0))), (some (200, true)), []⟩,
                 ⟨(some 206), (.pick (.tmp 200) (.tmp 205) (.const (.bool false))), none, []⟩,
                 ⟨(some 207), (.move (.tmp 206)), none, []⟩,
                 ⟨(some 208), (.move (.tmp 14)), (some (207, true)), []⟩,
                 ⟨(some 209), (.move (.tmp 3)), (some (207, true)), []⟩,
                 ⟨(some 210), (.indexAddrS 1 (.tmp 208) (.tmp 209)), (some (207, true)), []⟩,
                 ⟨(some 211), (.load false 1 (.tmp 210)), (some (207, true)), []⟩,
                 ⟨(some 212), (.bin .gtr (.tmp 211) (.const (.int .i64 0))), (some (207, true)), []⟩,
                 ⟨(some 213), (.pick (.tmp 207) (.tmp 212) (.const (.bool false))), none, []⟩,
                 ⟨(some 8), (.move (.tmp 213)), none, []⟩] false [8])
               .ret)))))))))))))
-- simp set: ac5, op5_113, op5_122, op5_167
theorem isF5 : IsFunc Try.prog 5 4 ac5 [.tmp 8] := isFunc_of _ [(0, [1, 2, 3, 4]), (1, [1, 2, 3, 4, 9]), (2, [1, 2, 3, 4, 9, 11]), (3, [1, 2, 3, 4, 9, 63]), (4, [8]), (5, [1, 2, 3, 4, 12]), (6, [1, 2, 3, 4, 12, 13]), (7, [1, 2, 3, 4, 12, 13, 77]), (8, [8]), (9, [1, 2, 3, 4, 12, 86]), (10, [8]), (11, [1, 2, 3, 4, 12, 14]), (12, [1, 2, 3, 4, 12, 14, 15]), (13, [1, 2, 3, 4, 12, 14, 15, 16]), (14, [1, 2, 3, 4, 12, 14, 15, 16, 109]), (16, [1, 2, 3, 4, 12, 14, 15, 16, 17, 18, 19]), (17, [1, 2, 3, 4, 12, 14, 15, 16, 17, 18, 148]), (18, [8]), (19, [1, 2, 3, 4, 12, 14, 15, 16, 18]), (20, [1, 2, 3, 4, 12, 14, 15, 16]), (15, [1, 2, 3, 4, 12, 14, 15, 16]), (21, [2, 3, 4, 14, 15, 20]), (22, [2, 3, 4, 14, 15, 20, 164]), (24, [2, 3, 4, 14, 15, 20, 187]), (25, [8]), (23, [2, 3, 4, 14, 15, 20]), (26, [8])] Try.func5 (by kernel_rfl)
/-- waymark/waymarklaw10.DagGrid; loop heads: [[0, 1, 6, 7], [0, 1, 6, 7, 8], [0, 1, 6, 9, 10], [0, 1, 6, 9, 10, 11]] -/
def op6_112 : List AOper := [
    ⟨(some 112), (.move (.tmp 10)), none, []⟩,
    ⟨(some 113), (.move (.tmp 11)), none, []⟩,
    ⟨(some 114), (.move (.tmp 10)), none, []⟩,
    ⟨(some 115), (.bin .sub (.tmp 114) (.const (.int .i64 1))), none, [2]⟩,
    ⟨(some 116), (.move (.tmp 11)), none, []⟩,
    ⟨(some 117), (.indexAddrA 6 6 (.tmp 9) (.tmp 115)), none, [3]⟩,
    ⟨(some 118), (.indexAddrA 6 1 (.tmp 117) (.tmp 116)), none, [5, 4]⟩,
    ⟨(some 119), (.load false 1 (.tmp 118)), none, [6]⟩,
    ⟨(some 120), (.move (.tmp 10)), none, []⟩,
    ⟨(some 121), (.move (.tmp 11)), none, []⟩,
    ⟨(some 122), (.bin .sub (.tmp 121) (.const (.int .i64 1))), none, [9]⟩,
    ⟨(some 123), (.indexAddrA 6 6 (.tmp 9) (.tmp 120)), none, [8]⟩,
    ⟨(some 124), (.indexAddrA 6 1 (.tmp 123) (.tmp 122)), none, [11, 10]⟩,
    ⟨(some 125), (.load false 1 (.tmp 124)), none, [12]⟩,
    ⟨(some 126), (.bin .add (.tmp 119) (.tmp 125)), none, [7, 13]⟩,
    ⟨(some 127), (.indexAddrA 6 6 (.tmp 9) (.tmp 112)), none, [0]⟩,
    ⟨(some 128), (.indexAddrA 6 1 (.tmp 127) (.tmp 113)), none, [15, 1, 0, 1, 2, 3, 4, 5, 6, 7, 8, 9, 10, 11, 12, 13, 14]⟩,
    ⟨none, (.store 1 (.tmp 128) (.tmp 126)), none, [16, 14, 0, 1, 2, 3, 4, 5, 6, 7, 8, 9, 10, 11, 12, 13, 14]⟩]
@[go_sem ↓] theorem op6_112_run {K : AExit → Fr → Store → Prop} {fr : Fr} {σ : Store} : wp Try.prog (.reg op6_112 true [0, 1, 6, 9, 10, 11]) K fr σ = wpOpsD Try.prog (Kreg [0, 1, 6, 9, 10, 11] K) op6_112 (Fr.get fr) σ := wp_draw (by kernel_rfl)
def op6_139 : List AOper := [
    ⟨(some 139), (.load true 2 (.tmp 6)), none, []⟩,
    ⟨(some 140), (.move (.tmp 0)), none, []⟩,
    ⟨(some 141), (.move (.tmp 1)), none, []⟩,
    ⟨(some 142), (.bin .mul (.tmp 140) (.tmp 141)), none, [1, 2]⟩,
    ⟨(some 143), (.bin .sub (.tmp 142) (.const (.int .i64 1))), none, [3]⟩,
    ⟨(some 144), (.callF 10 [(.tmp 139), (.const (.slice none 0 0)), (.const (.int .i64 0)), (.tmp 143)]), none, [0, 4]⟩,
    ⟨(some 145), (.move (.tmp 1)), none, []⟩,
    ⟨(some 146), (.bin .sub (.tmp 145) (.const (.int .i64 1))), none, [6]⟩,
    ⟨(some 147), (.move (.tmp 0)), none, []⟩,
    ⟨(some 148), (.bin .sub (.tmp 147) (.const (.int .i64 1))), none, [8]⟩,
    ⟨(some 149), (.indexAddrA 6 6 (.tmp 9) (.tmp 146)), none, [7]⟩,
    ⟨(some 150), (.indexAddrA 6 1 (.tmp 149) (.tmp 148)), none, [10, 9]⟩,
    ⟨(some 151), (.load false 1 (.tmp 150)), none, [11]⟩,
    ⟨(some 152), (.bin .eql (.tmp 144) (.tmp 151)), none, [5, 12]⟩,
    ⟨(some 153), (.move (.tmp 152)), none, [13, 5]⟩,
    ⟨(some 154), (.move (.tmp 12)), (some (153, true)), [14]⟩,
    ⟨(some 155), (.move (.tmp 0)), (some (153, true)), [14]⟩,
    ⟨(some 156), (.move (.tmp 1)), (some (153, true)), [14]⟩,
    ⟨(some 157), (.bin .add (.tmp 155) (.tmp 156)), (some (153, true)), [16, 17, 14]⟩,
    ⟨(some 158), (.bin .sub (.tmp 157) (.const (.int .i64 2))), (some (153, true)), [18, 14]⟩,
    ⟨(some 159), (.bin .eql (.tmp 154) (.tmp 158)), (some (153, true)), [15, 19, 14]⟩,
    ⟨(some 160), (.pick (.tmp 153) (.tmp 159) (.const (.bool false))), none, [14, 20]⟩,
    ⟨(some 161), (.move (.tmp 160)), none, [21, 14]⟩,
    ⟨(some 162), (.move (.tmp 13)), (some (161, true)), [22]⟩,
    ⟨(some 163), (.move (.tmp 0)), (some (161, true)), [22]⟩,
    ⟨(some 164), (.move (.tmp 1)), (some (161, true)), [22]⟩,
    ⟨(some 165), (.bin .add (.tmp 163) (.tmp 164)), (some (161, true)), [24, 25, 22]⟩,
    ⟨(some 166), (.bin .sub (.tmp 165) (.const (.int .i64 2))), (some (161, true)), [26, 22]⟩,
    ⟨(some 167), (.bin .eql (.tmp 162) (.tmp 166)), (some (161, true)), [23, 27, 22]⟩,
    ⟨(some 168), (.pick (.tmp 161) (.tmp 167) (.const (.bool false))), none, [22, 28]⟩,
    ⟨(some 169), (.move (.tmp 168)), none, [29, 22]⟩,
    ⟨(some 170), (.move (.tmp 14)), (some (169, true)), [30]⟩,
    ⟨(some 171), (.pick (.tmp 169) (.tmp 170) (.const (.bool false))), none, [30, 31]⟩,
    ⟨(some 172), (.move (.tmp 171)), none, [32, 30]⟩,
    ⟨(some 173), (.load true 2 (.tmp 6)), (some (172, true)), [33]⟩,
    ⟨(some 174), (.move (.tmp 0)), (some (172, true)), [33]⟩,
    ⟨(some 175), (.move (.tmp 1)), (some (172, true)), [33]⟩,
    ⟨(some 176), (.bin .mul (.tmp 174) (.tmp 175)), (some (172, true)), [35, 36, 33]⟩,
    ⟨(some 177), (.bin .sub (.tmp 176) (.const (.int .i64 1))), (some (172, true)), [37, 33]⟩,
    ⟨(some 178), (.callF 12 [(.tmp 173), (.const (.slice none 0 0)), (.const (.int .i64 0)), (.tmp 177)]), (some (172, true)), [34, 38, 33, 33]⟩,
    ⟨(some 179), (.lenS (.tmp 178)), (some (172, true)), [39, 33]⟩,
    ⟨(some 180), (.fieldAddr 1 (.tmp 6)), (some (172, true)), [33]⟩,
    ⟨(some 181), (.load false 1 (.tmp 180)), (some (172, true)), [41, 33]⟩,
    ⟨(some 182), (.lenS (.tmp 181)), (some (172, true)), [42, 33]⟩,
    ⟨(some 183), (.bin .eql (.tmp 179) (.tmp 182)), (some (172, true)), [40, 43, 33]⟩,
    ⟨(some 184), (.pick (.tmp 172) (.tmp 183) (.const (.bool false))), none, [33, 44]⟩,
    ⟨(some 4), (.move (.tmp 184)), none, [45, 39, 0, 1, 2, 3, 4, 5, 6, 7, 8, 9, 10, 11, 12, 13, 14, 15, 16, 17, 18, 19, 20, 21, 22, 23, 24, 25, 26, 27, 28, 29, 30, 31, 32, 33, 34, 35, 36, 37, 38, 39, 40, 41, 42, 43, 44, 45]⟩]
@[go_sem ↓] theorem op6_139_run {K : AExit → Fr → Store → Prop} {fr : Fr} {σ : Store} : wp Try.prog (.reg op6_139 true [4]) K fr σ = wpOpsD Try.prog (Kreg [4] K) op6_139 (Fr.get fr) σ := wp_draw (by kernel_rfl)
def ac6 : ACode :=
  (.seq
   (.reg [
     ⟨(some 4), (.move (.const (.bool false))), none, []⟩] false [0, 1])
   (.seq
    (.reg [
      ⟨(some 15), (.callF 7 []), none, []⟩,
      ⟨(some 5), (.move (.tmp 15)), none, []⟩] false [0, 1, 5])
    (.seq
     (.seq
      (.reg [
        ⟨(some 16), (.move (.tmp 5)), none, []⟩,
        ⟨(some 17), (.un .not (.tmp 16)), none, []⟩,
        ⟨(some 18), (.move (.tmp 17)), none, []⟩,
        ⟨(some 19), (.move (.tmp 0)), (some (18, false)), []⟩,
        ⟨(some 20), (.bin .lss (.tmp 19) (.const (.int .i64 1))), (some (18, false)), []⟩,
        ⟨(some 21), (.pick (.tmp 18) (.const (.bool true)) (.tmp 20)), none, []⟩,
        ⟨(some 22), (.move (.tmp 21)), none, []⟩,
        ⟨(some 23), (.move (.tmp 0)), (some (22, false)), []⟩,
        ⟨(some 24), (.bin .gtr (.tmp 23) (.const (.int .i64 6))), (some (22, false)), []⟩,
        ⟨(some 25), (.pick (.tmp 22) (.const (.bool true)) (.tmp 24)), none, []⟩,
        ⟨(some 26), (.move (.tmp 25)), none, []⟩,
        ⟨(some 27), (.move (.tmp 1)), (some (26, false)), []⟩,
        ⟨(some 28), (.bin .lss (.tmp 27) (.const (.int .i64 1))), (some (26, false)), []⟩,
        ⟨(some 29), (.pick (.tmp 26) (.const (.bool true)) (.tmp 28)), none, []⟩,
        ⟨(some 30), (.move (.tmp 29)), none, []⟩,
        ⟨(some 31), (.move (.tmp 1)), (some (30, false)), []⟩,
        ⟨(some 32), (.bin .gtr (.tmp 31) (.const (.int .i64 6))), (some (30, false)), []⟩,
        ⟨(some 33), (.pick (.tmp 30) (.const (.bool true)) (.tmp 32)), none, []⟩] false [0, 1, 5, 33])
      (.cond (.tmp 33)
        (.seq
         (.reg [
           ⟨(some 34), (.move (.tmp 5)), none, []⟩,
           ⟨(some 4), (.move (.tmp 34)), none, []⟩] false [4])
         .ret)
        .skip))
     (.seq
      (.reg [
        ⟨(some 35), (.move (.tmp 0)), none, []⟩,
        ⟨(some 36), (.move (.tmp 1)), none, []⟩,
        ⟨(some 37), (.bin .mul (.tmp 35) (.tmp 36)), none, []⟩,
        ⟨(some 38), (.build [(.sc (.int .i64 0)), .nils] [(0, 1, (.tmp 37))]), none, []⟩,
        ⟨(some 6), (.alloc [(.sc (.int .i64 0)), .nils]), none, []⟩,
        ⟨none, (.store 2 (.tmp 6) (.tmp 38)), none, []⟩] false [0, 1, 6])
      (.seq
       (.seq
        (.reg [
          ⟨(some 7), (.move (.const (.int .i64 0))), none, []⟩] false [0, 1, 6, 7])
        (.block 0
          (.loop
            (.seq
             (.seq
              (.reg [
                ⟨(some 39), (.move (.tmp 7)), none, []⟩,
                ⟨(some 40), (.move (.tmp 1)), none, []⟩,
                ⟨(some 41), (.bin .lss (.tmp 39) (.tmp 40)), none, []⟩] false [0, 1, 6, 7, 41])
              (.cond (.tmp 41)
                .skip
                (.exit 0)))
             (.seq
              (.block 1
                (.seq
                 (.reg [
                   ⟨(some 8), (.move (.const (.int .i64 0))), none, []⟩] false [0, 1, 6, 7, 8])
                 (.block 2
                   (.loop
                     (.seq
                      (.seq
                       (.reg [
                         ⟨(some 44), (.move (.tmp 8)), none, []⟩,
                         ⟨(some 45), (.move (.tmp 0)), none, []⟩,
                         ⟨(some 46), (.bin .lss (.tmp 44) (.tmp 45)), none, []⟩] false [0, 1, 6, 7, 8, 46])
                       (.cond (.tmp 46)
                         .skip
                         (.exit 2)))
                      (.seq
                       (.block 3
                         (.seq
                          (.seq
                           (.reg [
                             ⟨(some 49), (.move (.tmp 8)), none, []⟩,
                             ⟨(some 50), (.bin .add (.tmp 49) (.const (.int .i64 1))), none, []⟩,
                             ⟨(some 51), (.move (.tmp 0)), none, []⟩,
                             ⟨(some 52), (.bin .lss (.tmp 50) (.tmp 51)), none, []⟩] false [0, 1, 6, 7, 8, 52])
                           (.cond (.tmp 52)
                             (.reg [
                               ⟨(some 53), (.fieldAddr 1 (.tmp 6)), none, []⟩,
                               ⟨(some 54), (.load false 1 (.tmp 53)), none, []⟩,
                               ⟨(some 55), (.move (.tmp 7)), none, []⟩,
                               ⟨(some 56), (.move (.tmp 0)), none, []⟩,
                               ⟨(some 57), (.bin .mul (.tmp 55) (.tmp 56)), none, []⟩,
                               ⟨(some 58), (.move (.tmp 8)), none, []⟩,
                               ⟨(some 59), (.bin .add (.tmp 57) (.tmp 58)), none, []⟩,
                               ⟨(some 60), (.move (.tmp 7)), none, []⟩,
                               ⟨(some 61), (.move (.tmp 0)), none, []⟩,
                               ⟨(some 62), (.bin .mul (.tmp 60) (.tmp 61)), none, []⟩,
                               ⟨(some 63), (.move (.tmp 8)), none, []⟩,
                               ⟨(some 64), (.bin .add (.tmp 62) (.tmp 63)), none, []⟩,
                               ⟨(some 65), (.bin .add (.tmp 64) (.const (.int .i64 1))), none, []⟩,
                               ⟨(some 66), (.build [(.sc (.int .i64 0)), (.sc (.int .i64 0)), (.sc (.int .i64 0)), (.sc (.int .i64 0))] [(0, 1, (.tmp 59)), (1, 1, (.tmp 65)), (2, 1, (.const (.int .i64 2)))]), none, []⟩,
                               ⟨(some 67), (.buildSlice 4 1 [(.sc (.int .i64 0)), (.sc (.int .i64 0)), (.sc (.int .i64 0)), (.sc (.int .i64 0))] [(0, (.tmp 66))]), none, []⟩,
                               ⟨(some 68), (.append 4 32 [(.sc (.int .i64 0)), (.sc (.int .i64 0)), (.sc (.int .i64 0)), (.sc (.int .i64 0))] (.tmp 54) (.tmp 67)), none, []⟩,
                               ⟨(some 69), (.fieldAddr 1 (.tmp 6)), none, []⟩,
                               ⟨none, (.store 1 (.tmp 69) (.tmp 68)), none, []⟩] false [0, 1, 6, 7, 8])
                             .skip))
                          (.seq
                           (.reg [
                             ⟨(some 70), (.move (.tmp 7)), none, []⟩,
                             ⟨(some 71), (.bin .add (.tmp 70) (.const (.int .i64 1))), none, []⟩,
                             ⟨(some 72), (.move (.tmp 1)), none, []⟩,
                             ⟨(some 73), (.bin .lss (.tmp 71) (.tmp 72)), none, []⟩] false [0, 1, 6, 7, 8, 73])
                           (.cond (.tmp 73)
                             (.reg [
                               ⟨(some 74), (.fieldAddr 1 (.tmp 6)), none, []⟩,
                               ⟨(some 75), (.load false 1 (.tmp 74)), none, []⟩,
                               ⟨(some 76), (.move (.tmp 7)), none, []⟩,
                               ⟨(some 77), (.move (.tmp 0)), none, []⟩,
                               ⟨(some 78), (.bin .mul (.tmp 76) (.tmp 77)), none, []⟩,
                               ⟨(some 79), (.move (.tmp 8)), none, []⟩,
                               ⟨(some 80), (.bin .add (.tmp 78) (.tmp 79)), none, []⟩,
                               ⟨(some 81), (.move (.tmp 7)), none, []⟩,
                               ⟨(some 82), (.move (.tmp 0)), none, []⟩,
                               ⟨(some 83), (.bin .mul (.tmp 81) (.tmp 82)), none, []⟩,
                               ⟨(some 84), (.move (.tmp 8)), none, []⟩,
                               ⟨(some 85), (.bin .add (.tmp 83) (.tmp 84)), none, []⟩,
                               ⟨(some 86), (.move (.tmp 0)), none, []⟩,
                               ⟨(some 87), (.bin .add (.tmp 85) (.tmp 86)), none, []⟩,
                               ⟨(some 88), (.build [(.sc (.int .i64 0)), (.sc (.int .i64 0)), (.sc (.int .i64 0)), (.sc (.int .i64 0))] [(0, 1, (.tmp 80)), (1, 1, (.tmp 87)), (2, 1, (.const (.int .i64 2)))]), none, []⟩,
                               ⟨(some 89), (.buildSlice 4 1 [(.sc (.int .i64 0)), (.sc (.int .i64 0)), (.sc (.int .i64 0)), (.sc (.int .i64 0))] [(0, (.tmp 88))]), none, []⟩,
                               ⟨(some 90), (.append 4 32 [(.sc (.int .i64 0)), (.sc (.int .i64 0)), (.sc (.int .i64 0)), (.sc (.int .i64 0))] (.tmp 75) (.tmp 89)), none, []⟩,
                               ⟨(some 91), (.fieldAddr 1 (.tmp 6)), none, []⟩,
                               ⟨none, (.store 1 (.tmp 91) (.tmp 90)), none, []⟩] false [0, 1, 6, 7, 8])
                             .skip))))
                       (.reg [
                         ⟨(some 47), (.move (.tmp 8)), none, []⟩,
                         ⟨(some 48), (.bin .add (.tmp 47) (.const (.int .i64 1))), none, []⟩,
                         ⟨(some 8), (.move (.tmp 48)), none, []⟩] false [0, 1, 6, 7, 8])))))))
              (.reg [
                ⟨(some 42), (.move (.tmp 7)), none, []⟩,
                ⟨(some 43), (.bin .add (.tmp 42) (.const (.int .i64 1))), none, []⟩,
                ⟨(some 7), (.move (.tmp 43)), none, []⟩] false [0, 1, 6, 7]))))))
       (.seq
        (.reg [
          ⟨(some 9), (.alloc [(.sc (.int .i64 0)), (.sc (.int .i64 0)), (.sc (.int .i64 0)), (.sc (.int .i64 0)), (.sc (.int .i64 0)), (.sc (.int .i64 0)), (.sc (.int .i64 0)), (.sc (.int .i64 0)), (.sc (.int .i64 0)), (.sc (.int .i64 0)), (.sc (.int .i64 0)), (.sc (.int .i64 0)), (.sc (.int .i64 0)), (.sc (.int .i64 0)), (.sc (.int .i64 0)), (.sc (.int .i64 0)), (.sc (.int .i64 0)), (.sc (.int .i64 0)), (.sc (.int .i64 0)), (.sc (.int .i64 0)), (.sc (.int .i64 0)), (.sc (.int .i64 0)), (.sc (.int .i64 0)), (.sc (.int .i64 0)), (.sc (.int .i64 0)), (.sc (.int .i64 0)), (.sc (.int .i64 0)), (.sc (.int .i64 0)), (.sc (.int .i64 0)), (.sc (.int .i64 0)), (.sc (.int .i64 0)), (.sc (.int .i64 0)), (.sc (.int .i64 0)), (.sc (.int .i64 0)), (.sc (.int .i64 0)), (.sc (.int .i64 0))]), none, []⟩] false [0, 1, 6, 9])
        (.seq
         (.seq
          (.reg [
            ⟨(some 10), (.move (.const (.int .i64 0))), none, []⟩] false [0, 1, 6, 9, 10])
          (.block 4
            (.loop
              (.seq
               (.seq
                (.reg [
                  ⟨(some 92), (.move (.tmp 10)), none, []⟩,
                  ⟨(some 93), (.move (.tmp 1)), none, []⟩,
                  ⟨(some 94), (.bin .lss (.tmp 92) (.tmp 93)), none, []⟩] false [0, 1, 6, 9, 10, 94])
                (.cond (.tmp 94)
                  .skip
                  (.exit 4)))
               (.seq
                (.block 5
                  (.seq
                   (.reg [
                     ⟨(some 11), (.move (.const (.int .i64 0))), none, []⟩] false [0, 1, 6, 9, 10, 11])
                   (.block 6
                     (.loop
                       (.seq
                        (.seq
                         (.reg [
                           ⟨(some 97), (.move (.tmp 11)), none, []⟩,
                           ⟨(some 98), (.move (.tmp 0)), none, []⟩,
                           ⟨(some 99), (.bin .lss (.tmp 97) (.tmp 98)), none, []⟩] false [0, 1, 6, 9, 10, 11, 99])
                         (.cond (.tmp 99)
                           .skip
                           (.exit 6)))
                        (.seq
                         (.block 7
                           (.seq
                            (.reg [
                              ⟨(some 102), (.move (.tmp 11)), none, []⟩,
                              ⟨(some 103), (.bin .eql (.tmp 102) (.const (.int .i64 0))), none, []⟩,
                              ⟨(some 104), (.move (.tmp 103)), none, []⟩,
                              ⟨(some 105), (.move (.tmp 10)), (some (104, false)), []⟩,
                              ⟨(some 106), (.bin .eql (.tmp 105) (.const (.int .i64 0))), (some (104, false)), []⟩,
                              ⟨(some 107), (.pick (.tmp 104) (.const (.bool true)) (.tmp 106)), none, []⟩] false [0, 1, 6, 9, 10, 11, 107])
                            (.cond (.tmp 107)
                              (.reg [
                                ⟨(some 108), (.move (.tmp 10)), none, []⟩,
                                ⟨(some 109), (.move (.tmp 11)), none, []⟩,
                                ⟨(some 110), (.indexAddrA 6 6 (.tmp 9) (.tmp 108)), none, []⟩,
                                ⟨(some 111), (.indexAddrA 6 1 (.tmp 110) (.tmp 109)), none, []⟩,
                                ⟨none, (.store 1 (.tmp 111) (.const (.int .i64 1))), none, []⟩] false [0, 1, 6, 9, 10, 11])
                              (.reg op6_112 true [0, 1, 6, 9, 10, 11]))))
                         (.reg [
                           ⟨(some 100), (.move (.tmp 11)), none, []⟩,
                           ⟨(some 101), (.bin .add (.tmp 100) (.const (.int .i64 1))), none, []⟩,
                           ⟨(some 11), (.move (.tmp 101)), none, []⟩] false [0, 1, 6, 9, 10, 11])))))))
                (.reg [
                  ⟨(some 95), (.move (.tmp 10)), none, []⟩,
                  ⟨(some 96), (.bin .add (.tmp 95) (.const (.int .i64 1))), none, []⟩,
                  ⟨(some 10), (.move (.tmp 96)), none, []⟩] false [0, 1, 6, 9, 10]))))))
         (.seq
          (.reg [
            ⟨(some 130), (.load true 2 (.tmp 6)), none, []⟩,
            ⟨(some 131), (.move (.tmp 0)), none, []⟩,
            ⟨(some 132), (.move (.tmp 1)), none, []⟩,
            ⟨(some 133), (.bin .mul (.tmp 131) (.tmp 132)), none, []⟩,
            ⟨(some 134), (.bin .sub (.tmp 133) (.const (.int .i64 1))), none, []⟩,
            ⟨(some 135), (.callF 9 [(.tmp 130), (.const (.slice none 0 0)), (.const (.int .i64 0)), (.tmp 134)]), none, []⟩,
            ⟨(some 129), (.move (.tmp 135)), none, []⟩,
            ⟨(some 136), (.extract (.tmp 129) 0), none, []⟩,
            ⟨(some 137), (.extract (.tmp 129) 1), none, []⟩,
            ⟨(some 138), (.extract (.tmp 129) 2), none, []⟩,
            ⟨(some 12), (.move (.tmp 136)), none, []⟩,
            ⟨(some 13), (.move (.tmp 137)), none, []⟩,
            ⟨(some 14), (.move (.tmp 138)), none, []⟩] false [0, 1, 6, 9, 12, 13, 14])
          (.seq
           (.reg op6_139 true [4])
           .ret)))))))))
-- simp set: ac6, op6_112, op6_139
theorem isF6 : IsFunc Try.prog 6 2 ac6 [.tmp 4] := isFunc_of _ [(0, [0, 1]), (1, [0, 1, 5]), (2, [0, 1, 5, 33]), (3, [4]), (4, [0, 1, 6]), (5, [0, 1, 6, 7]), (6, [0, 1, 6, 7, 41]), (8, [0, 1, 6, 7, 8]), (9, [0, 1, 6, 7, 8, 46]), (11, [0, 1, 6, 7, 8, 52]), (12, [0, 1, 6, 7, 8]), (13, [0, 1, 6, 7, 8, 73]), (14, [0, 1, 6, 7, 8]), (10, [0, 1, 6, 7, 8]), (7, [0, 1, 6, 7]), (15, [0, 1, 6, 9]), (16, [0, 1, 6, 9, 10]), (17, [0, 1, 6, 9, 10, 94]), (19, [0, 1, 6, 9, 10, 11]), (20, [0, 1, 6, 9, 10, 11, 99]), (22, [0, 1, 6, 9, 10, 11, 107]), (23, [0, 1, 6, 9, 10, 11]), (24, [0, 1, 6, 9, 10, 11]), (21, [0, 1, 6, 9, 10, 11]), (18, [0, 1, 6, 9, 10]), (25, [0, 1, 6, 9, 12, 13, 14]), (26, [4])] Try.func6 (by kernel_rfl)
/-- waymark/waymarklaw10.alive; loop heads: [] -/
def ac7 : ACode :=
  (.seq
   (.reg [
     ⟨(some 0), (.move (.const (.bool false))), none, []⟩] false [])
   (.seq
    (.reg [
      ⟨(some 5), (.build [(.sc (.int .i64 0)), (.sc (.int .i64 0)), (.sc (.int .i64 0)), (.sc (.int .i64 0))] [(1, 1, (.const (.int .i64 1))), (2, 1, (.const (.int .i64 7)))]), none, []⟩,
      ⟨(some 6), (.build [(.sc (.int .i64 0)), (.sc (.int .i64 0)), (.sc (.int .i64 0)), (.sc (.int .i64 0))] [(1, 1, (.const (.int .i64 1))), (2, 1, (.const (.int .i64 7)))]), none, []⟩,
      ⟨(some 7), (.buildSlice 4 2 [(.sc (.int .i64 0)), (.sc (.int .i64 0)), (.sc (.int .i64 0)), (.sc (.int .i64 0))] [(0, (.tmp 5)), (1, (.tmp 6))]), none, []⟩,
      ⟨(some 8), (.build [(.sc (.int .i64 0)), .nils] [(0, 1, (.const (.int .i64 2))), (1, 1, (.tmp 7))]), none, []⟩,
      ⟨(some 1), (.alloc [(.sc (.int .i64 0)), .nils]), none, []⟩,
      ⟨none, (.store 2 (.tmp 1) (.tmp 8)), none, []⟩] false [1])
    (.seq
     (.reg [
       ⟨(some 10), (.load true 2 (.tmp 1)), none, []⟩,
       ⟨(some 11), (.callF 9 [(.tmp 10), (.const (.slice none 0 0)), (.const (.int .i64 0)), (.const (.int .i64 1))]), none, []⟩,
       ⟨(some 9), (.move (.tmp 11)), none, []⟩,
       ⟨(some 12), (.extract (.tmp 9) 0), none, []⟩,
       ⟨(some 13), (.extract (.tmp 9) 1), none, []⟩,
       ⟨(some 14), (.extract (.tmp 9) 2), none, []⟩,
       ⟨(some 2), (.move (.tmp 12)), none, []⟩,
       ⟨(some 3), (.move (.tmp 13)), none, []⟩,
       ⟨(some 4), (.move (.tmp 14)), none, []⟩] false [1, 2, 3, 4])
     (.seq
      (.reg [
        ⟨(some 15), (.build [(.sc (.int .i64 0)), .nils] [(0, 1, (.const (.int .i64 1)))]), none, []⟩,
        ⟨(some 16), (.callF 10 [(.tmp 15), (.const (.slice none 0 0)), (.const (.int .i64 0)), (.const (.int .i64 0))]), none, []⟩,
        ⟨(some 17), (.bin .eql (.tmp 16) (.const (.int .i64 1))), none, []⟩,
        ⟨(some 18), (.move (.tmp 17)), none, []⟩,
        ⟨(some 19), (.load true 2 (.tmp 1)), (some (18, true)), []⟩,
        ⟨(some 20), (.callF 10 [(.tmp 19), (.const (.slice none 0 0)), (.const (.int .i64 0)), (.const (.int .i64 1))]), (some (18, true)), []⟩,
        ⟨(some 21), (.bin .eql (.tmp 20) (.const (.int .i64 2))), (some (18, true)), []⟩,
        ⟨(some 22), (.pick (.tmp 18) (.tmp 21) (.const (.bool false))), none, []⟩,
        ⟨(some 23), (.move (.tmp 22)), none, []⟩,
        ⟨(some 24), (.move (.tmp 2)), (some (23, true)), []⟩,
        ⟨(some 25), (.bin .eql (.tmp 24) (.const (.int .i64 1))), (some (23, true)), []⟩,
        ⟨(some 26), (.pick (.tmp 23) (.tmp 25) (.const (.bool false))), none, []⟩,
        ⟨(some 27), (.move (.tmp 26)), none, []⟩,
        ⟨(some 28), (.move (.tmp 3)), (some (27, true)), []⟩,
        ⟨(some 29), (.bin .eql (.tmp 28) (.const (.int .i64 1))), (some (27, true)), []⟩,
        ⟨(some 30), (.pick (.tmp 27) (.tmp 29) (.const (.bool false))), none, []⟩,
        ⟨(some 31), (.move (.tmp 30)), none, []⟩,
        ⟨(some 32), (.move (.tmp 4)), (some (31, true)), []⟩,
        ⟨(some 33), (.pick (.tmp 31) (.tmp 32) (.const (.bool false))), none, []⟩,
        ⟨(some 34), (.move (.tmp 33)), none, []⟩,
        ⟨(some 35), (.load true 2 (.tmp 1)), (some (34, true)), []⟩,
        ⟨(some 36), (.callF 12 [(.tmp 35), (.const (.slice none 0 0)), (.const (.int .i64 0)), (.const (.int .i64 1))]), (some (34, true)), []⟩,
        ⟨(some 37), (.lenS (.tmp 36)), (some (34, true)), []⟩,
        ⟨(some 38), (.bin .eql (.tmp 37) (.const (.int .i64 2))), (some (34, true)), []⟩,
        ⟨(some 39), (.pick (.tmp 34) (.tmp 38) (.const (.bool false))), none, []⟩,
        ⟨(some 0), (.move (.tmp 39)), none, []⟩] false [0])
      .ret))))
-- simp set: ac7
theorem isF7 : IsFunc Try.prog 7 0 ac7 [.tmp 0] := isFunc_of _ [(1, [1]), (2, [1, 2, 3, 4]), (3, [0])] Try.func7 (by kernel_rfl)
/-- waymark/waymarkref1.Ways; loop heads: [[1, 2, 4, 12, 13, 14, 15, 16]] -/
def op8_63 : List AOper := [
    ⟨(some 63), (.move (.tmp 13)), none, []⟩,
    ⟨(some 64), (.move (.tmp 2)), none, []⟩,
    ⟨(some 65), (.indexAddrS 1 (.tmp 63) (.tmp 64)), none, [0, 1]⟩,
    ⟨(some 66), (.load false 1 (.tmp 65)), none, [2]⟩,
    ⟨(some 67), (.move (.tmp 14)), none, []⟩,
    ⟨(some 68), (.move (.tmp 2)), none, []⟩,
    ⟨(some 69), (.indexAddrS 1 (.tmp 67) (.tmp 68)), none, [4, 5]⟩,
    ⟨(some 70), (.load false 1 (.tmp 69)), none, [6]⟩,
    ⟨(some 71), (.move (.tmp 15)), none, []⟩,
    ⟨(some 72), (.move (.tmp 2)), none, []⟩,
    ⟨(some 73), (.indexAddrS 1 (.tmp 71) (.tmp 72)), none, [8, 9]⟩,
    ⟨(some 74), (.load false 1 (.tmp 73)), none, [10]⟩,
    ⟨(some 8), (.move (.tmp 66)), none, [3, 0, 1, 2, 3]⟩,
    ⟨(some 9), (.move (.tmp 70)), none, [7, 12, 0, 1, 2, 3, 4, 5, 6, 7, 12]⟩,
    ⟨(some 10), (.move (.tmp 74)), none, [11, 13, 0, 1, 2, 3, 4, 5, 6, 7, 8, 9, 10, 11, 12, 13]⟩,
    ⟨(some 11), (.move (.const (.bool true))), none, [14, 0, 1, 2, 3, 4, 5, 6, 7, 8, 9, 10, 11, 12, 13, 14]⟩]
@[go_sem ↓] theorem op8_63_run {K : AExit → Fr → Store → Prop} {fr : Fr} {σ : Store} : wp Try.prog (.reg op8_63 true [8, 9, 10, 11]) K fr σ = wpOpsD Try.prog (Kreg [8, 9, 10, 11] K) op8_63 (Fr.get fr) σ := wp_draw (by kernel_rfl)
def ac8 : ACode :=
  (.seq
   (.reg [
     ⟨(some 4), (.box (.tmp 0)), none, []⟩,
     ⟨(some 8), (.move (.const (.int .i64 0))), none, []⟩,
     ⟨(some 9), (.move (.const (.int .i64 0))), none, []⟩,
     ⟨(some 10), (.move (.const (.int .i64 0))), none, []⟩,
     ⟨(some 11), (.move (.const (.bool false))), none, []⟩] false [1, 2, 3, 4])
   (.seq
    (.reg [
      ⟨(some 17), (.load true 2 (.tmp 4)), none, []⟩,
      ⟨(some 18), (.move (.tmp 1)), none, []⟩,
      ⟨(some 19), (.move (.tmp 3)), none, []⟩,
      ⟨(some 20), (.callF 16 [(.tmp 17), (.tmp 18), (.tmp 19)]), none, []⟩,
      ⟨(some 12), (.move (.tmp 20)), none, []⟩] false [1, 2, 4, 12])
    (.seq
     (.seq
      (.reg [
        ⟨(some 21), (.move (.tmp 12)), none, []⟩,
        ⟨(some 22), (.lenS (.tmp 21)), none, []⟩,
        ⟨(some 23), (.bin .eql (.tmp 22) (.const (.int .i64 0))), none, []⟩,
        ⟨(some 24), (.move (.tmp 23)), none, []⟩,
        ⟨(some 25), (.load true 2 (.tmp 4)), (some (24, false)), []⟩,
        ⟨(some 26), (.move (.tmp 2)), (some (24, false)), []⟩,
        ⟨(some 27), (.callF 19 [(.tmp 25), (.tmp 26)]), (some (24, false)), []⟩,
        ⟨(some 28), (.un .not (.tmp 27)), (some (24, false)), []⟩,
        ⟨(some 29), (.pick (.tmp 24) (.const (.bool true)) (.tmp 28)), none, []⟩,
        ⟨(some 30), (.move (.tmp 29)), none, []⟩,
        ⟨(some 31), (.move (.tmp 12)), (some (30, false)), []⟩,
        ⟨(some 32), (.move (.tmp 2)), (some (30, false)), []⟩,
        ⟨(some 33), (.indexAddrS 1 (.tmp 31) (.tmp 32)), (some (30, false)), []⟩,
        ⟨(some 34), (.load false 1 (.tmp 33)), (some (30, false)), []⟩,
        ⟨(some 35), (.bin .lss (.tmp 34) (.const (.int .i64 0))), (some (30, false)), []⟩,
        ⟨(some 36), (.pick (.tmp 30) (.const (.bool true)) (.tmp 35)), none, []⟩] false [1, 2, 4, 12, 36])
      (.cond (.tmp 36)
        (.seq
         (.reg [
           ⟨(some 8), (.move (.const (.int .i64 0))), none, []⟩,
           ⟨(some 9), (.move (.const (.int .i64 0))), none, []⟩,
           ⟨(some 10), (.move (.const (.int .i64 0))), none, []⟩,
           ⟨(some 11), (.move (.const (.bool false))), none, []⟩] false [8, 9, 10, 11])
         .ret)
        .skip))
     (.seq
      (.reg [
        ⟨(some 37), (.fieldAddr 0 (.tmp 4)), none, []⟩,
        ⟨(some 38), (.load false 1 (.tmp 37)), none, []⟩,
        ⟨(some 39), (.makeSlice 1 8 [(.sc (.int .i64 0))] (.tmp 38) (.tmp 38)), none, []⟩,
        ⟨(some 13), (.move (.tmp 39)), none, []⟩] false [1, 2, 4, 12, 13])
      (.seq
       (.reg [
         ⟨(some 40), (.fieldAddr 0 (.tmp 4)), none, []⟩,
         ⟨(some 41), (.load false 1 (.tmp 40)), none, []⟩,
         ⟨(some 42), (.makeSlice 1 8 [(.sc (.int .i64 0))] (.tmp 41) (.tmp 41)), none, []⟩,
         ⟨(some 14), (.move (.tmp 42)), none, []⟩] false [1, 2, 4, 12, 13, 14])
       (.seq
        (.reg [
          ⟨(some 43), (.fieldAddr 0 (.tmp 4)), none, []⟩,
          ⟨(some 44), (.load false 1 (.tmp 43)), none, []⟩,
          ⟨(some 45), (.makeSlice 1 8 [(.sc (.int .i64 0))] (.tmp 44) (.tmp 44)), none, []⟩,
          ⟨(some 15), (.move (.tmp 45)), none, []⟩] false [1, 2, 4, 12, 13, 14, 15])
        (.seq
         (.seq
          (.reg [
            ⟨(some 16), (.move (.const (.int .i64 0))), none, []⟩] false [1, 2, 4, 12, 13, 14, 15, 16])
          (.block 0
            (.loop
              (.seq
               (.seq
                (.reg [
                  ⟨(some 46), (.move (.tmp 16)), none, []⟩,
                  ⟨(some 47), (.fieldAddr 0 (.tmp 4)), none, []⟩,
                  ⟨(some 48), (.load false 1 (.tmp 47)), none, []⟩,
                  ⟨(some 49), (.bin .lss (.tmp 46) (.tmp 48)), none, []⟩] false [1, 2, 4, 12, 13, 14, 15, 16, 49])
                (.cond (.tmp 49)
                  .skip
                  (.exit 0)))
               (.seq
                (.block 1
                  (.reg [
                    ⟨(some 52), (.move (.tmp 13)), none, []⟩,
                    ⟨(some 53), (.move (.tmp 16)), none, []⟩,
                    ⟨(some 54), (.indexAddrS 1 (.tmp 52) (.tmp 53)), none, []⟩,
                    ⟨none, (.store 1 (.tmp 54) (.const (.int .i64 (-1)))), none, []⟩] false [1, 2, 4, 12, 13, 14, 15, 16]))
                (.reg [
                  ⟨(some 50), (.move (.tmp 16)), none, []⟩,
                  ⟨(some 51), (.bin .add (.tmp 50) (.const (.int .i64 1))), none, []⟩,
                  ⟨(some 16), (.move (.tmp 51)), none, []⟩] false [1, 2, 4, 12, 13, 14, 15, 16]))))))
         (.seq
          (.reg [
            ⟨(some 55), (.load true 2 (.tmp 4)), none, []⟩,
            ⟨(some 56), (.move (.tmp 1)), none, []⟩,
            ⟨(some 57), (.move (.tmp 12)), none, []⟩,
            ⟨(some 58), (.move (.tmp 2)), none, []⟩,
            ⟨(some 59), (.move (.tmp 13)), none, []⟩,
            ⟨(some 60), (.move (.tmp 14)), none, []⟩,
            ⟨(some 61), (.move (.tmp 15)), none, []⟩,
            ⟨(some 62), (.callF 20 [(.tmp 55), (.tmp 56), (.tmp 57), (.tmp 58), (.tmp 59), (.tmp 60), (.tmp 61)]), none, []⟩] false [2, 13, 14, 15])
          (.seq
           (.reg op8_63 true [8, 9, 10, 11])
           .ret)))))))))
-- simp set: ac8, op8_63
theorem isF8 : IsFunc Try.prog 8 4 ac8 [.tmp 8, .tmp 9, .tmp 10, .tmp 11] := isFunc_of _ [(0, [1, 2, 3, 4]), (1, [1, 2, 4, 12]), (2, [1, 2, 4, 12, 36]), (3, [8, 9, 10, 11]), (4, [1, 2, 4, 12, 13]), (5, [1, 2, 4, 12, 13, 14]), (6, [1, 2, 4, 12, 13, 14, 15]), (7, [1, 2, 4, 12, 13, 14, 15, 16]), (8, [1, 2, 4, 12, 13, 14, 15, 16, 49]), (10, [1, 2, 4, 12, 13, 14, 15, 16]), (9, [1, 2, 4, 12, 13, 14, 15, 16]), (11, [2, 13, 14, 15]), (12, [8, 9, 10, 11])] Try.func8 (by kernel_rfl)
/-- waymark/dag.Hops; loop heads: [[2, 3, 4, 11, 12, 13, 37, 38], [3, 4, 11, 12, 13, 51, 52, 53], [3, 4, 11, 12, 13, 16, 51, 52, 53, 61, 62, 63]] -/
def op9_30 : List AOper := [
    ⟨(some 30), (.fieldAddr 0 (.tmp 4)), none, []⟩,
    ⟨(some 31), (.load false 1 (.tmp 30)), none, [0]⟩,
    ⟨(some 32), (.makeSlice 1 8 [(.sc (.int .i64 0))] (.tmp 31) (.tmp 31)), none, [1, 1]⟩,
    ⟨(some 33), (.fieldAddr 0 (.tmp 4)), none, []⟩,
    ⟨(some 34), (.load false 1 (.tmp 33)), none, [3]⟩,
    ⟨(some 35), (.makeSlice 1 8 [(.sc (.int .i64 0))] (.tmp 34) (.tmp 34)), none, [4, 4]⟩,
    ⟨(some 12), (.move (.tmp 32)), none, [2, 0, 1, 2]⟩,
    ⟨(some 13), (.move (.tmp 35)), none, [5, 6, 0, 1, 2, 3, 4, 5, 6]⟩]
@[go_sem ↓] theorem op9_30_run {K : AExit → Fr → Store → Prop} {fr : Fr} {σ : Store} : wp Try.prog (.reg op9_30 true [2, 3, 4, 11, 12, 13]) K fr σ = wpOpsD Try.prog (Kreg [2, 3, 4, 11, 12, 13] K) op9_30 (Fr.get fr) σ := wp_draw (by kernel_rfl)
def op9_74 : List AOper := [
    ⟨(some 74), (.move (.tmp 12)), none, []⟩,
    ⟨(some 75), (.move (.tmp 20)), none, []⟩,
    ⟨(some 76), (.move (.tmp 13)), none, []⟩,
    ⟨(some 77), (.move (.tmp 20)), none, []⟩,
    ⟨(some 78), (.move (.tmp 12)), none, []⟩,
    ⟨(some 79), (.move (.tmp 20)), none, []⟩,
    ⟨(some 80), (.indexAddrS 1 (.tmp 78) (.tmp 79)), none, [4, 5]⟩,
    ⟨(some 81), (.load false 1 (.tmp 80)), none, [6]⟩,
    ⟨(some 82), (.move (.tmp 12)), none, []⟩,
    ⟨(some 83), (.move (.tmp 16)), none, []⟩,
    ⟨(some 84), (.indexAddrS 1 (.tmp 82) (.tmp 83)), none, [8, 9]⟩,
    ⟨(some 85), (.load false 1 (.tmp 84)), none, [10]⟩,
    ⟨(some 86), (.bin .add (.tmp 85) (.const (.int .i64 1))), none, [11]⟩,
    ⟨(some 87), (.minmax false [(.tmp 81), (.tmp 86)]), none, [7, 12]⟩,
    ⟨(some 88), (.move (.tmp 13)), none, []⟩,
    ⟨(some 89), (.move (.tmp 20)), none, []⟩,
    ⟨(some 90), (.indexAddrS 1 (.tmp 88) (.tmp 89)), none, [14, 15]⟩,
    ⟨(some 91), (.load false 1 (.tmp 90)), none, [16]⟩,
    ⟨(some 92), (.move (.tmp 13)), none, []⟩,
    ⟨(some 93), (.move (.tmp 16)), none, []⟩,
    ⟨(some 94), (.indexAddrS 1 (.tmp 92) (.tmp 93)), none, [18, 19]⟩,
    ⟨(some 95), (.load false 1 (.tmp 94)), none, [20]⟩,
    ⟨(some 96), (.bin .add (.tmp 95) (.const (.int .i64 1))), none, [21]⟩,
    ⟨(some 97), (.minmax true [(.tmp 91), (.tmp 96)]), none, [17, 22]⟩,
    ⟨(some 98), (.indexAddrS 1 (.tmp 74) (.tmp 75)), none, [0, 1, 0, 1, 4, 5, 6, 7, 8, 9, 10, 11, 12, 13, 17, 21]⟩,
    ⟨none, (.store 1 (.tmp 98) (.tmp 87)), none, [24, 13, 0, 1, 4, 5, 6, 7, 8, 9, 10, 11, 12, 13, 17, 21]⟩,
    ⟨(some 99), (.indexAddrS 1 (.tmp 76) (.tmp 77)), none, [2, 3, 0, 1, 2, 3, 4, 5, 6, 7, 8, 9, 10, 11, 12, 13, 14, 15, 16, 17, 18, 19, 20, 21, 22, 23, 24, 25]⟩,
    ⟨none, (.store 1 (.tmp 99) (.tmp 97)), none, [26, 23, 25, 0, 1, 2, 3, 4, 5, 6, 7, 8, 9, 10, 11, 12, 13, 14, 15, 16, 17, 18, 19, 20, 21, 22, 23, 24, 25]⟩]
@[go_sem ↓] theorem op9_74_run {K : AExit → Fr → Store → Prop} {fr : Fr} {σ : Store} : wp Try.prog (.reg op9_74 true [3, 4, 11, 12, 13, 16, 51, 52, 53, 61, 62, 63]) K fr σ = wpOpsD Try.prog (Kreg [3, 4, 11, 12, 13, 16, 51, 52, 53, 61, 62, 63] K) op9_74 (Fr.get fr) σ := wp_draw (by kernel_rfl)
def op9_102 : List AOper := [
    ⟨(some 102), (.move (.tmp 12)), none, []⟩,
    ⟨(some 103), (.move (.tmp 3)), none, []⟩,
    ⟨(some 104), (.indexAddrS 1 (.tmp 102) (.tmp 103)), none, [0, 1]⟩,
    ⟨(some 105), (.load false 1 (.tmp 104)), none, [2]⟩,
    ⟨(some 106), (.move (.tmp 13)), none, []⟩,
    ⟨(some 107), (.move (.tmp 3)), none, []⟩,
    ⟨(some 108), (.indexAddrS 1 (.tmp 106) (.tmp 107)), none, [4, 5]⟩,
    ⟨(some 109), (.load false 1 (.tmp 108)), none, [6]⟩,
    ⟨(some 8), (.move (.tmp 105)), none, [3, 0, 1, 2, 3]⟩,
    ⟨(some 9), (.move (.tmp 109)), none, [7, 8, 0, 1, 2, 3, 4, 5, 6, 7, 8]⟩,
    ⟨(some 10), (.move (.const (.bool true))), none, [9, 0, 1, 2, 3, 4, 5, 6, 7, 8, 9]⟩]
@[go_sem ↓] theorem op9_102_run {K : AExit → Fr → Store → Prop} {fr : Fr} {σ : Store} : wp Try.prog (.reg op9_102 true [8, 9, 10]) K fr σ = wpOpsD Try.prog (Kreg [8, 9, 10] K) op9_102 (Fr.get fr) σ := wp_draw (by kernel_rfl)
def ac9 : ACode :=
  (.seq
   (.reg [
     ⟨(some 4), (.box (.tmp 0)), none, []⟩,
     ⟨(some 8), (.move (.const (.int .i64 0))), none, []⟩,
     ⟨(some 9), (.move (.const (.int .i64 0))), none, []⟩,
     ⟨(some 10), (.move (.const (.bool false))), none, []⟩] false [1, 2, 3, 4])
   (.seq
    (.reg [
      ⟨(some 22), (.load true 2 (.tmp 4)), none, []⟩,
      ⟨(some 23), (.move (.tmp 1)), none, []⟩,
      ⟨(some 24), (.move (.tmp 2)), none, []⟩,
      ⟨(some 25), (.move (.tmp 3)), none, []⟩,
      ⟨(some 26), (.callF 21 [(.tmp 22), (.tmp 23), (.tmp 24), (.tmp 25)]), none, []⟩,
      ⟨(some 11), (.alloc [.nils, .nils, (.sc (.bool false))]), none, []⟩,
      ⟨none, (.store 3 (.tmp 11) (.tmp 26)), none, []⟩] false [2, 3, 4, 11])
    (.seq
     (.seq
      (.reg [
        ⟨(some 27), (.fieldAddr 2 (.tmp 11)), none, []⟩,
        ⟨(some 28), (.load false 1 (.tmp 27)), none, []⟩,
        ⟨(some 29), (.un .not (.tmp 28)), none, []⟩] false [2, 3, 4, 11, 29])
      (.cond (.tmp 29)
        (.seq
         (.reg [
           ⟨(some 8), (.move (.const (.int .i64 0))), none, []⟩,
           ⟨(some 9), (.move (.const (.int .i64 0))), none, []⟩,
           ⟨(some 10), (.move (.const (.bool false))), none, []⟩] false [8, 9, 10])
         .ret)
        .skip))
     (.seq
      (.reg op9_30 true [2, 3, 4, 11, 12, 13])
      (.seq
       (.seq
        (.reg [
          ⟨(some 36), (.move (.tmp 12)), none, []⟩,
          ⟨(some 37), (.lenS (.tmp 36)), none, []⟩,
          ⟨(some 38), (.move (.const (.int .i64 0))), none, []⟩] false [2, 3, 4, 11, 12, 13, 37, 38])
        (.block 0
          (.loop
            (.seq
             (.reg [
               ⟨(some 39), (.bin .lss (.tmp 38) (.tmp 37)), none, []⟩] false [2, 3, 4, 11, 12, 13, 37, 38, 39])
             (.seq
              (.cond (.tmp 39)
                .skip
                (.exit 0))
              (.seq
               (.block 1
                 (.seq
                  (.reg [
                    ⟨(some 40), (.move (.tmp 38)), none, []⟩,
                    ⟨(some 14), (.move (.tmp 40)), none, []⟩] false [2, 3, 4, 11, 12, 13, 14, 37, 38])
                  (.reg [
                    ⟨(some 41), (.move (.tmp 12)), none, []⟩,
                    ⟨(some 42), (.move (.tmp 14)), none, []⟩,
                    ⟨(some 43), (.fieldAddr 0 (.tmp 4)), none, []⟩,
                    ⟨(some 44), (.load false 1 (.tmp 43)), none, []⟩,
                    ⟨(some 45), (.indexAddrS 1 (.tmp 41) (.tmp 42)), none, []⟩,
                    ⟨none, (.store 1 (.tmp 45) (.tmp 44)), none, []⟩] false [2, 3, 4, 11, 12, 13, 37, 38])))
               (.reg [
                 ⟨(some 46), (.bin .add (.tmp 38) (.const (.int .i64 1))), none, []⟩,
                 ⟨(some 38), (.move (.tmp 46)), none, []⟩] false [2, 3, 4, 11, 12, 13, 37, 38])))))))
       (.seq
        (.reg [
          ⟨(some 47), (.move (.tmp 12)), none, []⟩,
          ⟨(some 48), (.move (.tmp 2)), none, []⟩,
          ⟨(some 49), (.indexAddrS 1 (.tmp 47) (.tmp 48)), none, []⟩,
          ⟨none, (.store 1 (.tmp 49) (.const (.int .i64 0))), none, []⟩] false [3, 4, 11, 12, 13])
        (.seq
         (.seq
          (.reg [
            ⟨(some 50), (.fieldAddr 0 (.tmp 11)), none, []⟩,
            ⟨(some 51), (.load false 1 (.tmp 50)), none, []⟩,
            ⟨(some 52), (.lenS (.tmp 51)), none, []⟩,
            ⟨(some 53), (.move (.const (.int .i64 0))), none, []⟩] false [3, 4, 11, 12, 13, 51, 52, 53])
          (.block 2
            (.loop
              (.seq
               (.reg [
                 ⟨(some 54), (.bin .lss (.tmp 53) (.tmp 52)), none, []⟩] false [3, 4, 11, 12, 13, 51, 52, 53, 54])
               (.seq
                (.cond (.tmp 54)
                  .skip
                  (.exit 2))
                (.seq
                 (.block 3
                   (.seq
                    (.reg [
                      ⟨(some 55), (.indexAddrS 1 (.tmp 51) (.tmp 53)), none, []⟩,
                      ⟨(some 56), (.load false 1 (.tmp 55)), none, []⟩,
                      ⟨(some 16), (.move (.tmp 56)), none, []⟩] false [3, 4, 11, 12, 13, 16, 51, 52, 53])
                    (.seq
                     (.reg [
                       ⟨(some 57), (.fieldAddr 1 (.tmp 11)), none, []⟩,
                       ⟨(some 58), (.load false 1 (.tmp 57)), none, []⟩,
                       ⟨(some 59), (.move (.tmp 16)), none, []⟩,
                       ⟨(some 60), (.indexAddrS 1 (.tmp 58) (.tmp 59)), none, []⟩,
                       ⟨(some 61), (.load false 1 (.tmp 60)), none, []⟩,
                       ⟨(some 62), (.lenS (.tmp 61)), none, []⟩,
                       ⟨(some 63), (.move (.const (.int .i64 0))), none, []⟩] false [3, 4, 11, 12, 13, 16, 51, 52, 53, 61, 62, 63])
                     (.block 4
                       (.loop
                         (.seq
                          (.reg [
                            ⟨(some 64), (.bin .lss (.tmp 63) (.tmp 62)), none, []⟩] false [3, 4, 11, 12, 13, 16, 51, 52, 53, 61, 62, 63, 64])
                          (.seq
                           (.cond (.tmp 64)
                             .skip
                             (.exit 4))
                           (.seq
                            (.block 5
                              (.seq
                               (.reg [
                                 ⟨(some 65), (.indexAddrS 1 (.tmp 61) (.tmp 63)), none, []⟩,
                                 ⟨(some 66), (.load false 1 (.tmp 65)), none, []⟩,
                                 ⟨(some 18), (.move (.tmp 66)), none, []⟩] false [3, 4, 11, 12, 13, 16, 18, 51, 52, 53, 61, 62, 63])
                               (.seq
                                (.reg [
                                  ⟨(some 68), (.load true 2 (.tmp 4)), none, []⟩,
                                  ⟨(some 69), (.move (.tmp 18)), none, []⟩,
                                  ⟨(some 70), (.callF 22 [(.tmp 68), (.tmp 69)]), none, []⟩,
                                  ⟨(some 67), (.move (.tmp 70)), none, []⟩,
                                  ⟨(some 71), (.extract (.tmp 67) 0), none, []⟩,
                                  ⟨(some 72), (.extract (.tmp 67) 1), none, []⟩,
                                  ⟨(some 73), (.extract (.tmp 67) 2), none, []⟩,
                                  ⟨(some 19), (.move (.tmp 71)), none, []⟩,
                                  ⟨(some 20), (.move (.tmp 72)), none, []⟩,
                                  ⟨(some 21), (.move (.tmp 73)), none, []⟩] false [3, 4, 11, 12, 13, 16, 20, 51, 52, 53, 61, 62, 63])
                                (.reg op9_74 true [3, 4, 11, 12, 13, 16, 51, 52, 53, 61, 62, 63]))))
                            (.reg [
                              ⟨(some 100), (.bin .add (.tmp 63) (.const (.int .i64 1))), none, []⟩,
                              ⟨(some 63), (.move (.tmp 100)), none, []⟩] false [3, 4, 11, 12, 13, 16, 51, 52, 53, 61, 62, 63])))))))))
                 (.reg [
                   ⟨(some 101), (.bin .add (.tmp 53) (.const (.int .i64 1))), none, []⟩,
                   ⟨(some 53), (.move (.tmp 101)), none, []⟩] false [3, 4, 11, 12, 13, 51, 52, 53])))))))
         (.seq
          (.reg op9_102 true [8, 9, 10])
          .ret))))))))
-- simp set: ac9, op9_30, op9_74, op9_102
theorem isF9 : IsFunc Try.prog 9 4 ac9 [.tmp 8, .tmp 9, .tmp 10] := isFunc_of _ [(0, [1, 2, 3, 4]), (1, [2, 3, 4, 11]), (2, [2, 3, 4, 11, 29]), (3, [8, 9, 10]), (4, [2, 3, 4, 11, 12, 13]), (5, [2, 3, 4, 11, 12, 13, 37, 38]), (6, [2, 3, 4, 11, 12, 13, 37, 38, 39]), (7, [2, 3, 4, 11, 12, 13, 14, 37, 38]), (8, [2, 3, 4, 11, 12, 13, 37, 38]), (9, [2, 3, 4, 11, 12, 13, 37, 38]), (10, [3, 4, 11, 12, 13]), (11, [3, 4, 11, 12, 13, 51, 52, 53]), (12, [3, 4, 11, 12, 13, 51, 52, 53, 54]), (13, [3, 4, 11, 12, 13, 16, 51, 52, 53]), (14, [3, 4, 11, 12, 13, 16, 51, 52, 53, 61, 62, 63]), (15, [3, 4, 11, 12, 13, 16, 51, 52, 53, 61, 62, 63, 64]), (16, [3, 4, 11, 12, 13, 16, 18, 51, 52, 53, 61, 62, 63]), (17, [3, 4, 11, 12, 13, 16, 20, 51, 52, 53, 61, 62, 63]), (18, [3, 4, 11, 12, 13, 16, 51, 52, 53, 61, 62, 63]), (19, [3, 4, 11, 12, 13, 16, 51, 52, 53, 61, 62, 63]), (20, [3, 4, 11, 12, 13, 51, 52, 53]), (21, [8, 9, 10])] Try.func9 (by kernel_rfl)
/-- waymark/dag.Count; loop heads: [[3, 4, 9, 10, 33, 34, 35], [3, 4, 9, 10, 12, 33, 34, 35, 43, 44, 45]] -/
def op10_56 : List AOper := [
    ⟨(some 56), (.move (.tmp 10)), none, []⟩,
    ⟨(some 57), (.move (.tmp 16)), none, []⟩,
    ⟨(some 58), (.move (.tmp 10)), none, []⟩,
    ⟨(some 59), (.move (.tmp 16)), none, []⟩,
    ⟨(some 60), (.indexAddrS 1 (.tmp 58) (.tmp 59)), none, [2, 3]⟩,
    ⟨(some 61), (.load false 1 (.tmp 60)), none, [4]⟩,
    ⟨(some 62), (.move (.tmp 10)), none, []⟩,
    ⟨(some 63), (.move (.tmp 12)), none, []⟩,
    ⟨(some 64), (.indexAddrS 1 (.tmp 62) (.tmp 63)), none, [6, 7]⟩,
    ⟨(some 65), (.load false 1 (.tmp 64)), none, [8]⟩,
    ⟨(some 66), (.bin .add (.tmp 61) (.tmp 65)), none, [5, 9]⟩,
    ⟨(some 67), (.minmax false [(.const (.int .i64 1099511627776)), (.tmp 66)]), none, [10]⟩,
    ⟨(some 68), (.indexAddrS 1 (.tmp 56) (.tmp 57)), none, [0, 1, 0, 1, 2, 3, 4, 5, 6, 7, 8, 9, 10, 11]⟩,
    ⟨none, (.store 1 (.tmp 68) (.tmp 67)), none, [12, 11, 0, 1, 2, 3, 4, 5, 6, 7, 8, 9, 10, 11]⟩]
@[go_sem ↓] theorem op10_56_run {K : AExit → Fr → Store → Prop} {fr : Fr} {σ : Store} : wp Try.prog (.reg op10_56 true [3, 4, 9, 10, 12, 33, 34, 35, 43, 44, 45]) K fr σ = wpOpsD Try.prog (Kreg [3, 4, 9, 10, 12, 33, 34, 35, 43, 44, 45] K) op10_56 (Fr.get fr) σ := wp_draw (by kernel_rfl)
def ac10 : ACode :=
  (.seq
   (.reg [
     ⟨(some 4), (.box (.tmp 0)), none, []⟩,
     ⟨(some 8), (.move (.const (.int .i64 0))), none, []⟩] false [1, 2, 3, 4])
   (.seq
    (.reg [
      ⟨(some 18), (.load true 2 (.tmp 4)), none, []⟩,
      ⟨(some 19), (.move (.tmp 1)), none, []⟩,
      ⟨(some 20), (.move (.tmp 2)), none, []⟩,
      ⟨(some 21), (.move (.tmp 3)), none, []⟩,
      ⟨(some 22), (.callF 21 [(.tmp 18), (.tmp 19), (.tmp 20), (.tmp 21)]), none, []⟩,
      ⟨(some 9), (.alloc [.nils, .nils, (.sc (.bool false))]), none, []⟩,
      ⟨none, (.store 3 (.tmp 9) (.tmp 22)), none, []⟩] false [2, 3, 4, 9])
    (.seq
     (.seq
      (.reg [
        ⟨(some 23), (.fieldAddr 2 (.tmp 9)), none, []⟩,
        ⟨(some 24), (.load false 1 (.tmp 23)), none, []⟩,
        ⟨(some 25), (.un .not (.tmp 24)), none, []⟩] false [2, 3, 4, 9, 25])
      (.cond (.tmp 25)
        (.seq
         (.reg [
           ⟨(some 8), (.move (.const (.int .i64 0))), none, []⟩] false [8])
         .ret)
        .skip))
     (.seq
      (.reg [
        ⟨(some 26), (.fieldAddr 0 (.tmp 4)), none, []⟩,
        ⟨(some 27), (.load false 1 (.tmp 26)), none, []⟩,
        ⟨(some 28), (.makeSlice 1 8 [(.sc (.int .i64 0))] (.tmp 27) (.tmp 27)), none, []⟩,
        ⟨(some 10), (.move (.tmp 28)), none, []⟩] false [2, 3, 4, 9, 10])
      (.seq
       (.reg [
         ⟨(some 29), (.move (.tmp 10)), none, []⟩,
         ⟨(some 30), (.move (.tmp 2)), none, []⟩,
         ⟨(some 31), (.indexAddrS 1 (.tmp 29) (.tmp 30)), none, []⟩,
         ⟨none, (.store 1 (.tmp 31) (.const (.int .i64 1))), none, []⟩] false [3, 4, 9, 10])
       (.seq
        (.seq
         (.reg [
           ⟨(some 32), (.fieldAddr 0 (.tmp 9)), none, []⟩,
           ⟨(some 33), (.load false 1 (.tmp 32)), none, []⟩,
           ⟨(some 34), (.lenS (.tmp 33)), none, []⟩,
           ⟨(some 35), (.move (.const (.int .i64 0))), none, []⟩] false [3, 4, 9, 10, 33, 34, 35])
         (.block 0
           (.loop
             (.seq
              (.reg [
                ⟨(some 36), (.bin .lss (.tmp 35) (.tmp 34)), none, []⟩] false [3, 4, 9, 10, 33, 34, 35, 36])
              (.seq
               (.cond (.tmp 36)
                 .skip
                 (.exit 0))
               (.seq
                (.block 1
                  (.seq
                   (.reg [
                     ⟨(some 37), (.indexAddrS 1 (.tmp 33) (.tmp 35)), none, []⟩,
                     ⟨(some 38), (.load false 1 (.tmp 37)), none, []⟩,
                     ⟨(some 12), (.move (.tmp 38)), none, []⟩] false [3, 4, 9, 10, 12, 33, 34, 35])
                   (.seq
                    (.reg [
                      ⟨(some 39), (.fieldAddr 1 (.tmp 9)), none, []⟩,
                      ⟨(some 40), (.load false 1 (.tmp 39)), none, []⟩,
                      ⟨(some 41), (.move (.tmp 12)), none, []⟩,
                      ⟨(some 42), (.indexAddrS 1 (.tmp 40) (.tmp 41)), none, []⟩,
                      ⟨(some 43), (.load false 1 (.tmp 42)), none, []⟩,
                      ⟨(some 44), (.lenS (.tmp 43)), none, []⟩,
                      ⟨(some 45), (.move (.const (.int .i64 0))), none, []⟩] false [3, 4, 9, 10, 12, 33, 34, 35, 43, 44, 45])
                    (.block 2
                      (.loop
                        (.seq
                         (.reg [
                           ⟨(some 46), (.bin .lss (.tmp 45) (.tmp 44)), none, []⟩] false [3, 4, 9, 10, 12, 33, 34, 35, 43, 44, 45, 46])
                         (.seq
                          (.cond (.tmp 46)
                            .skip
                            (.exit 2))
                          (.seq
                           (.block 3
                             (.seq
                              (.reg [
                                ⟨(some 47), (.indexAddrS 1 (.tmp 43) (.tmp 45)), none, []⟩,
                                ⟨(some 48), (.load false 1 (.tmp 47)), none, []⟩,
                                ⟨(some 14), (.move (.tmp 48)), none, []⟩] false [3, 4, 9, 10, 12, 14, 33, 34, 35, 43, 44, 45])
                              (.seq
                               (.reg [
                                 ⟨(some 50), (.load true 2 (.tmp 4)), none, []⟩,
                                 ⟨(some 51), (.move (.tmp 14)), none, []⟩,
                                 ⟨(some 52), (.callF 22 [(.tmp 50), (.tmp 51)]), none, []⟩,
                                 ⟨(some 49), (.move (.tmp 52)), none, []⟩,
                                 ⟨(some 53), (.extract (.tmp 49) 0), none, []⟩,
                                 ⟨(some 54), (.extract (.tmp 49) 1), none, []⟩,
                                 ⟨(some 55), (.extract (.tmp 49) 2), none, []⟩,
                                 ⟨(some 15), (.move (.tmp 53)), none, []⟩,
                                 ⟨(some 16), (.move (.tmp 54)), none, []⟩,
                                 ⟨(some 17), (.move (.tmp 55)), none, []⟩] false [3, 4, 9, 10, 12, 16, 33, 34, 35, 43, 44, 45])
                               (.reg op10_56 true [3, 4, 9, 10, 12, 33, 34, 35, 43, 44, 45]))))
                           (.reg [
                             ⟨(some 69), (.bin .add (.tmp 45) (.const (.int .i64 1))), none, []⟩,
                             ⟨(some 45), (.move (.tmp 69)), none, []⟩] false [3, 4, 9, 10, 12, 33, 34, 35, 43, 44, 45])))))))))
                (.reg [
                  ⟨(some 70), (.bin .add (.tmp 35) (.const (.int .i64 1))), none, []⟩,
                  ⟨(some 35), (.move (.tmp 70)), none, []⟩] false [3, 4, 9, 10, 33, 34, 35])))))))
        (.seq
         (.reg [
           ⟨(some 71), (.move (.tmp 10)), none, []⟩,
           ⟨(some 72), (.move (.tmp 3)), none, []⟩,
           ⟨(some 73), (.indexAddrS 1 (.tmp 71) (.tmp 72)), none, []⟩,
           ⟨(some 74), (.load false 1 (.tmp 73)), none, []⟩,
           ⟨(some 8), (.move (.tmp 74)), none, []⟩] false [8])
         .ret)))))))
-- simp set: ac10, op10_56
theorem isF10 : IsFunc Try.prog 10 4 ac10 [.tmp 8] := isFunc_of _ [(0, [1, 2, 3, 4]), (1, [2, 3, 4, 9]), (2, [2, 3, 4, 9, 25]), (3, [8]), (4, [2, 3, 4, 9, 10]), (5, [3, 4, 9, 10]), (6, [3, 4, 9, 10, 33, 34, 35]), (7, [3, 4, 9, 10, 33, 34, 35, 36]), (8, [3, 4, 9, 10, 12, 33, 34, 35]), (9, [3, 4, 9, 10, 12, 33, 34, 35, 43, 44, 45]), (10, [3, 4, 9, 10, 12, 33, 34, 35, 43, 44, 45, 46]), (11, [3, 4, 9, 10, 12, 14, 33, 34, 35, 43, 44, 45]), (12, [3, 4, 9, 10, 12, 16, 33, 34, 35, 43, 44, 45]), (13, [3, 4, 9, 10, 12, 33, 34, 35, 43, 44, 45]), (14, [3, 4, 9, 10, 12, 33, 34, 35, 43, 44, 45]), (15, [3, 4, 9, 10, 33, 34, 35]), (16, [8])] Try.func10 (by kernel_rfl)
/-- waymark/waymarkref1.SameInts; loop heads: [[0, 1, 5]] -/
def op11_17 : List AOper := [
    ⟨(some 17), (.move (.tmp 0)), none, []⟩,
    ⟨(some 18), (.move (.tmp 5)), none, []⟩,
    ⟨(some 19), (.indexAddrS 1 (.tmp 17) (.tmp 18)), none, [0, 1]⟩,
    ⟨(some 20), (.load false 1 (.tmp 19)), none, [2]⟩,
    ⟨(some 21), (.move (.tmp 1)), none, []⟩,
    ⟨(some 22), (.move (.tmp 5)), none, []⟩,
    ⟨(some 23), (.indexAddrS 1 (.tmp 21) (.tmp 22)), none, [4, 5]⟩,
    ⟨(some 24), (.load false 1 (.tmp 23)), none, [6]⟩,
    ⟨(some 25), (.bin .neq (.tmp 20) (.tmp 24)), none, [3, 7]⟩]
@[go_sem ↓] theorem op11_17_run {K : AExit → Fr → Store → Prop} {fr : Fr} {σ : Store} : wp Try.prog (.reg op11_17 true [0, 1, 5, 25]) K fr σ = wpOpsD Try.prog (Kreg [0, 1, 5, 25] K) op11_17 (Fr.get fr) σ := wp_draw (by kernel_rfl)
def ac11 : ACode :=
  (.seq
   (.reg [
     ⟨(some 4), (.move (.const (.bool false))), none, []⟩] false [0, 1])
   (.seq
    (.seq
     (.reg [
       ⟨(some 6), (.move (.tmp 0)), none, []⟩,
       ⟨(some 7), (.lenS (.tmp 6)), none, []⟩,
       ⟨(some 8), (.move (.tmp 1)), none, []⟩,
       ⟨(some 9), (.lenS (.tmp 8)), none, []⟩,
       ⟨(some 10), (.bin .neq (.tmp 7) (.tmp 9)), none, []⟩] false [0, 1, 10])
     (.cond (.tmp 10)
       (.seq
        (.reg [
          ⟨(some 4), (.move (.const (.bool false))), none, []⟩] false [4])
        .ret)
       .skip))
    (.seq
     (.seq
      (.reg [
        ⟨(some 5), (.move (.const (.int .i64 0))), none, []⟩] false [0, 1, 5])
      (.block 0
        (.loop
          (.seq
           (.seq
            (.reg [
              ⟨(some 11), (.move (.tmp 5)), none, []⟩,
              ⟨(some 12), (.move (.tmp 0)), none, []⟩,
              ⟨(some 13), (.lenS (.tmp 12)), none, []⟩,
              ⟨(some 14), (.bin .lss (.tmp 11) (.tmp 13)), none, []⟩] false [0, 1, 5, 14])
            (.cond (.tmp 14)
              .skip
              (.exit 0)))
           (.seq
            (.block 1
              (.seq
               (.reg op11_17 true [0, 1, 5, 25])
               (.cond (.tmp 25)
                 (.seq
                  (.reg [
                    ⟨(some 4), (.move (.const (.bool false))), none, []⟩] false [4])
                  .ret)
                 .skip)))
            (.reg [
              ⟨(some 15), (.move (.tmp 5)), none, []⟩,
              ⟨(some 16), (.bin .add (.tmp 15) (.const (.int .i64 1))), none, []⟩,
              ⟨(some 5), (.move (.tmp 16)), none, []⟩] false [0, 1, 5]))))))
     (.seq
      (.reg [
        ⟨(some 4), (.move (.const (.bool true))), none, []⟩] false [4])
      .ret))))
-- simp set: ac11, op11_17
theorem isF11 : IsFunc Try.prog 11 2 ac11 [.tmp 4] := isFunc_of _ [(0, [0, 1]), (1, [0, 1, 10]), (2, [4]), (3, [0, 1, 5]), (4, [0, 1, 5, 14]), (6, [0, 1, 5, 25]), (7, [4]), (5, [0, 1, 5]), (8, [4])] Try.func11 (by kernel_rfl)
/-- waymark/dag.Uses; loop heads: [[9, 17, 18, 19]] -/
def ac12 : ACode :=
  (.seq
   (.reg [
     ⟨(some 4), (.box (.tmp 0)), none, []⟩,
     ⟨(some 8), (.move (.const (.slice none 0 0))), none, []⟩] false [1, 2, 3, 4])
   (.seq
    (.reg [
      ⟨(some 9), (.move (.const (.slice none 0 0))), none, []⟩] false [1, 2, 3, 4, 9])
    (.seq
     (.seq
      (.reg [
        ⟨(some 12), (.load true 2 (.tmp 4)), none, []⟩,
        ⟨(some 13), (.move (.tmp 1)), none, []⟩,
        ⟨(some 14), (.move (.tmp 2)), none, []⟩,
        ⟨(some 15), (.move (.tmp 3)), none, []⟩,
        ⟨(some 16), (.callF 21 [(.tmp 12), (.tmp 13), (.tmp 14), (.tmp 15)]), none, []⟩,
        ⟨(some 17), (.field false 1 1 (.tmp 16)), none, []⟩,
        ⟨(some 18), (.lenS (.tmp 17)), none, []⟩,
        ⟨(some 19), (.move (.const (.int .i64 0))), none, []⟩] false [9, 17, 18, 19])
      (.block 0
        (.loop
          (.seq
           (.reg [
             ⟨(some 20), (.bin .lss (.tmp 19) (.tmp 18)), none, []⟩] false [9, 17, 18, 19, 20])
           (.seq
            (.cond (.tmp 20)
              .skip
              (.exit 0))
            (.seq
             (.block 1
               (.seq
                (.reg [
                  ⟨(some 21), (.indexAddrS 1 (.tmp 17) (.tmp 19)), none, []⟩,
                  ⟨(some 22), (.load false 1 (.tmp 21)), none, []⟩,
                  ⟨(some 11), (.move (.tmp 22)), none, []⟩] false [9, 11, 17, 18, 19])
                (.reg [
                  ⟨(some 23), (.move (.tmp 9)), none, []⟩,
                  ⟨(some 24), (.move (.tmp 11)), none, []⟩,
                  ⟨(some 25), (.append 1 8 [(.sc (.int .i64 0))] (.tmp 23) (.tmp 24)), none, []⟩,
                  ⟨(some 9), (.move (.tmp 25)), none, []⟩] false [9, 17, 18, 19])))
             (.reg [
               ⟨(some 26), (.bin .add (.tmp 19) (.const (.int .i64 1))), none, []⟩,
               ⟨(some 19), (.move (.tmp 26)), none, []⟩] false [9, 17, 18, 19])))))))
     (.seq
      (.reg [
        ⟨(some 27), (.move (.tmp 9)), none, []⟩,
        ⟨(some 28), (.callF 23 [(.tmp 27)]), none, []⟩] false [9])
      (.seq
       (.reg [
         ⟨(some 29), (.move (.tmp 9)), none, []⟩,
         ⟨(some 8), (.move (.tmp 29)), none, []⟩] false [8])
       .ret)))))
-- simp set: ac12
theorem isF12 : IsFunc Try.prog 12 4 ac12 [.tmp 8] := isFunc_of _ [(0, [1, 2, 3, 4]), (1, [1, 2, 3, 4, 9]), (2, [9, 17, 18, 19]), (3, [9, 17, 18, 19, 20]), (4, [9, 11, 17, 18, 19]), (5, [9, 17, 18, 19]), (6, [9, 17, 18, 19]), (7, [9]), (8, [8])] Try.func12 (by kernel_rfl)
/-- waymark/waymarkref1.Uses; loop heads: [[1, 3, 4, 9, 10, 11, 12]] -/
def op13_54 : List AOper := [
    ⟨(some 54), (.move (.tmp 1)), none, []⟩,
    ⟨(some 55), (.move (.tmp 12)), none, []⟩,
    ⟨(some 56), (.bin .quo (.tmp 55) (.const (.int .i64 2))), none, [1]⟩,
    ⟨(some 57), (.callF 18 [(.tmp 54), (.tmp 56)]), none, [0, 2]⟩,
    ⟨(some 58), (.un .not (.tmp 57)), none, [3]⟩,
    ⟨(some 59), (.move (.tmp 58)), none, [4, 3]⟩,
    ⟨(some 60), (.move (.tmp 9)), (some (59, true)), [5]⟩,
    ⟨(some 61), (.move (.tmp 13)), (some (59, true)), [5]⟩,
    ⟨(some 62), (.indexAddrS 1 (.tmp 60) (.tmp 61)), (some (59, true)), [6, 7, 5]⟩,
    ⟨(some 63), (.load false 1 (.tmp 62)), (some (59, true)), [8, 5]⟩,
    ⟨(some 64), (.bin .geq (.tmp 63) (.const (.int .i64 0))), (some (59, true)), [9, 5]⟩,
    ⟨(some 65), (.pick (.tmp 59) (.tmp 64) (.const (.bool false))), none, [5, 10]⟩,
    ⟨(some 66), (.move (.tmp 65)), none, [11, 5]⟩,
    ⟨(some 67), (.move (.tmp 10)), (some (66, true)), [12]⟩,
    ⟨(some 68), (.move (.tmp 14)), (some (66, true)), [12]⟩,
    ⟨(some 69), (.indexAddrS 1 (.tmp 67) (.tmp 68)), (some (66, true)), [13, 14, 12]⟩,
    ⟨(some 70), (.load false 1 (.tmp 69)), (some (66, true)), [15, 12]⟩,
    ⟨(some 71), (.bin .geq (.tmp 70) (.const (.int .i64 0))), (some (66, true)), [16, 12]⟩,
    ⟨(some 72), (.pick (.tmp 66) (.tmp 71) (.const (.bool false))), none, [12, 17]⟩,
    ⟨(some 73), (.move (.tmp 72)), none, [18, 12]⟩,
    ⟨(some 74), (.move (.tmp 9)), (some (73, true)), [19]⟩,
    ⟨(some 75), (.move (.tmp 13)), (some (73, true)), [19]⟩,
    ⟨(some 76), (.indexAddrS 1 (.tmp 74) (.tmp 75)), (some (73, true)), [20, 21, 19]⟩,
    ⟨(some 77), (.load false 1 (.tmp 76)), (some (73, true)), [22, 19]⟩,
    ⟨(some 78), (.fieldAddr 1 (.tmp 4)), (some (73, true)), [19]⟩,
    ⟨(some 79), (.load false 1 (.tmp 78)), (some (73, true)), [24, 19]⟩,
    ⟨(some 80), (.move (.tmp 12)), (some (73, true)), [19]⟩,
    ⟨(some 81), (.bin .quo (.tmp 80) (.const (.int .i64 2))), (some (73, true)), [26, 19]⟩,
    ⟨(some 82), (.indexAddrS 4 (.tmp 79) (.tmp 81)), (some (73, true)), [25, 27, 19]⟩,
    ⟨(some 83), (.fieldAddr 2 (.tmp 82)), (some (73, true)), [28, 19]⟩,
    ⟨(some 84), (.load false 1 (.tmp 83)), (some (73, true)), [29, 19]⟩,
    ⟨(some 85), (.bin .add (.tmp 77) (.tmp 84)), (some (73, true)), [23, 30, 19]⟩,
    ⟨(some 86), (.move (.tmp 10)), (some (73, true)), [19]⟩,
    ⟨(some 87), (.move (.tmp 14)), (some (73, true)), [19]⟩,
    ⟨(some 88), (.indexAddrS 1 (.tmp 86) (.tmp 87)), (some (73, true)), [32, 33, 19]⟩,
    ⟨(some 89), (.load false 1 (.tmp 88)), (some (73, true)), [34, 19]⟩,
    ⟨(some 90), (.bin .add (.tmp 85) (.tmp 89)), (some (73, true)), [31, 35, 19]⟩,
    ⟨(some 91), (.move (.tmp 9)), (some (73, true)), [19]⟩,
    ⟨(some 92), (.move (.tmp 3)), (some (73, true)), [19]⟩,
    ⟨(some 93), (.indexAddrS 1 (.tmp 91) (.tmp 92)), (some (73, true)), [37, 38, 19]⟩,
    ⟨(some 94), (.load false 1 (.tmp 93)), (some (73, true)), [39, 19]⟩,
    ⟨(some 95), (.bin .eql (.tmp 90) (.tmp 94)), (some (73, true)), [36, 40, 19]⟩,
    ⟨(some 96), (.pick (.tmp 73) (.tmp 95) (.const (.bool false))), none, [19, 41]⟩]
@[go_sem ↓] theorem op13_54_run {K : AExit → Fr → Store → Prop} {fr : Fr} {σ : Store} : wp Try.prog (.reg op13_54 true [1, 3, 4, 9, 10, 11, 12, 96]) K fr σ = wpOpsD Try.prog (Kreg [1, 3, 4, 9, 10, 11, 12, 96] K) op13_54 (Fr.get fr) σ := wp_draw (by kernel_rfl)
def ac13 : ACode :=
  (.seq
   (.reg [
     ⟨(some 4), (.box (.tmp 0)), none, []⟩,
     ⟨(some 8), (.move (.const (.slice none 0 0))), none, []⟩] false [1, 2, 3, 4])
   (.seq
    (.reg [
      ⟨(some 16), (.load true 2 (.tmp 4)), none, []⟩,
      ⟨(some 17), (.move (.tmp 1)), none, []⟩,
      ⟨(some 18), (.move (.tmp 2)), none, []⟩,
      ⟨(some 19), (.callF 16 [(.tmp 16), (.tmp 17), (.tmp 18)]), none, []⟩,
      ⟨(some 9), (.move (.tmp 19)), none, []⟩] false [1, 3, 4, 9])
    (.seq
     (.reg [
       ⟨(some 20), (.load true 2 (.tmp 4)), none, []⟩,
       ⟨(some 21), (.move (.tmp 1)), none, []⟩,
       ⟨(some 22), (.move (.tmp 3)), none, []⟩,
       ⟨(some 23), (.callF 16 [(.tmp 20), (.tmp 21), (.tmp 22)]), none, []⟩,
       ⟨(some 10), (.move (.tmp 23)), none, []⟩] false [1, 3, 4, 9, 10])
     (.seq
      (.seq
       (.reg [
         ⟨(some 24), (.move (.tmp 9)), none, []⟩,
         ⟨(some 25), (.lenS (.tmp 24)), none, []⟩,
         ⟨(some 26), (.bin .eql (.tmp 25) (.const (.int .i64 0))), none, []⟩,
         ⟨(some 27), (.move (.tmp 26)), none, []⟩,
         ⟨(some 28), (.move (.tmp 10)), (some (27, false)), []⟩,
         ⟨(some 29), (.lenS (.tmp 28)), (some (27, false)), []⟩,
         ⟨(some 30), (.bin .eql (.tmp 29) (.const (.int .i64 0))), (some (27, false)), []⟩,
         ⟨(some 31), (.pick (.tmp 27) (.const (.bool true)) (.tmp 30)), none, []⟩,
         ⟨(some 32), (.move (.tmp 31)), none, []⟩,
         ⟨(some 33), (.move (.tmp 9)), (some (32, false)), []⟩,
         ⟨(some 34), (.move (.tmp 3)), (some (32, false)), []⟩,
         ⟨(some 35), (.indexAddrS 1 (.tmp 33) (.tmp 34)), (some (32, false)), []⟩,
         ⟨(some 36), (.load false 1 (.tmp 35)), (some (32, false)), []⟩,
         ⟨(some 37), (.bin .lss (.tmp 36) (.const (.int .i64 0))), (some (32, false)), []⟩,
         ⟨(some 38), (.pick (.tmp 32) (.const (.bool true)) (.tmp 37)), none, []⟩] false [1, 3, 4, 9, 10, 38])
       (.cond (.tmp 38)
         (.seq
          (.reg [
            ⟨(some 8), (.move (.const (.slice none 0 0))), none, []⟩] false [8])
          .ret)
         .skip))
      (.seq
       (.reg [
         ⟨(some 11), (.move (.const (.slice none 0 0))), none, []⟩] false [1, 3, 4, 9, 10, 11])
       (.seq
        (.seq
         (.reg [
           ⟨(some 12), (.move (.const (.int .i64 0))), none, []⟩] false [1, 3, 4, 9, 10, 11, 12])
         (.block 0
           (.loop
             (.seq
              (.seq
               (.reg [
                 ⟨(some 39), (.move (.tmp 12)), none, []⟩,
                 ⟨(some 40), (.fieldAddr 1 (.tmp 4)), none, []⟩,
                 ⟨(some 41), (.load false 1 (.tmp 40)), none, []⟩,
                 ⟨(some 42), (.lenS (.tmp 41)), none, []⟩,
                 ⟨(some 43), (.bin .mul (.const (.int .i64 2)) (.tmp 42)), none, []⟩,
                 ⟨(some 44), (.bin .lss (.tmp 39) (.tmp 43)), none, []⟩] false [1, 3, 4, 9, 10, 11, 12, 44])
               (.cond (.tmp 44)
                 .skip
                 (.exit 0)))
              (.seq
               (.block 1
                 (.seq
                  (.reg [
                    ⟨(some 48), (.load true 2 (.tmp 4)), none, []⟩,
                    ⟨(some 49), (.move (.tmp 12)), none, []⟩,
                    ⟨(some 50), (.callF 17 [(.tmp 48), (.tmp 49)]), none, []⟩,
                    ⟨(some 47), (.move (.tmp 50)), none, []⟩,
                    ⟨(some 51), (.extract (.tmp 47) 0), none, []⟩,
                    ⟨(some 52), (.extract (.tmp 47) 1), none, []⟩,
                    ⟨(some 53), (.extract (.tmp 47) 2), none, []⟩,
                    ⟨(some 13), (.move (.tmp 51)), none, []⟩,
                    ⟨(some 14), (.move (.tmp 52)), none, []⟩,
                    ⟨(some 15), (.move (.tmp 53)), none, []⟩] false [1, 3, 4, 9, 10, 11, 12, 13, 14])
                  (.seq
                   (.reg op13_54 true [1, 3, 4, 9, 10, 11, 12, 96])
                   (.cond (.tmp 96)
                     (.reg [
                       ⟨(some 97), (.move (.tmp 11)), none, []⟩,
                       ⟨(some 98), (.move (.tmp 12)), none, []⟩,
                       ⟨(some 99), (.buildSlice 1 1 [(.sc (.int .i64 0))] [(0, (.tmp 98))]), none, []⟩,
                       ⟨(some 100), (.append 1 8 [(.sc (.int .i64 0))] (.tmp 97) (.tmp 99)), none, []⟩,
                       ⟨(some 11), (.move (.tmp 100)), none, []⟩] false [1, 3, 4, 9, 10, 11, 12])
                     .skip))))
               (.reg [
                 ⟨(some 45), (.move (.tmp 12)), none, []⟩,
                 ⟨(some 46), (.bin .add (.tmp 45) (.const (.int .i64 1))), none, []⟩,
                 ⟨(some 12), (.move (.tmp 46)), none, []⟩] false [1, 3, 4, 9, 10, 11, 12]))))))
        (.seq
         (.reg [
           ⟨(some 101), (.move (.tmp 11)), none, []⟩,
           ⟨(some 8), (.move (.tmp 101)), none, []⟩] false [8])
         .ret)))))))
-- simp set: ac13, op13_54
theorem isF13 : IsFunc Try.prog 13 4 ac13 [.tmp 8] := isFunc_of _ [(0, [1, 2, 3, 4]), (1, [1, 3, 4, 9]), (2, [1, 3, 4, 9, 10]), (3, [1, 3, 4, 9, 10, 38]), (4, [8]), (5, [1, 3, 4, 9, 10, 11]), (6, [1, 3, 4, 9, 10, 11, 12]), (7, [1, 3, 4, 9, 10, 11, 12, 44]), (9, [1, 3, 4, 9, 10, 11, 12, 13, 14]), (10, [1, 3, 4, 9, 10, 11, 12, 96]), (11, [1, 3, 4, 9, 10, 11, 12]), (8, [1, 3, 4, 9, 10, 11, 12]), (12, [8])] Try.func13 (by kernel_rfl)
/-- waymark/waymarkref1.Cut; loop heads: [] -/
def ac14 : ACode :=
  (.seq
   (.reg [
     ⟨(some 6), (.move (.const (.int .i64 0))), none, []⟩] false [0, 1, 2])
   (.seq
    (.block 0
      (.seq
       (.reg [
         ⟨(some 8), (.move (.tmp 0)), none, []⟩,
         ⟨(some 9), (.move (.tmp 1)), none, []⟩,
         ⟨(some 10), (.bin .lss (.tmp 8) (.tmp 9)), none, []⟩,
         ⟨(some 7), (.move (.tmp 10)), none, []⟩] false [0, 1, 2, 7])
       (.cond (.tmp 7)
         (.seq
          (.reg [
            ⟨(some 11), (.move (.tmp 1)), none, []⟩,
            ⟨(some 6), (.move (.tmp 11)), none, []⟩] false [6])
          .ret)
         (.seq
          (.reg [
            ⟨(some 13), (.move (.tmp 0)), none, []⟩,
            ⟨(some 14), (.move (.tmp 2)), none, []⟩,
            ⟨(some 15), (.bin .gtr (.tmp 13) (.tmp 14)), none, []⟩,
            ⟨(some 12), (.move (.tmp 15)), none, []⟩] false [0, 2, 12])
          (.cond (.tmp 12)
            (.seq
             (.reg [
               ⟨(some 16), (.move (.tmp 2)), none, []⟩,
               ⟨(some 6), (.move (.tmp 16)), none, []⟩] false [6])
             .ret)
            .skip)))))
    (.seq
     (.reg [
       ⟨(some 17), (.move (.tmp 0)), none, []⟩,
       ⟨(some 6), (.move (.tmp 17)), none, []⟩] false [6])
     .ret)))
-- simp set: ac14
theorem isF14 : IsFunc Try.prog 14 3 ac14 [.tmp 6] := isFunc_of _ [(0, [0, 1, 2]), (1, [0, 1, 2, 7]), (2, [6]), (3, [0, 2, 12]), (4, [6]), (5, [6])] Try.func14 (by kernel_rfl)
/-- waymark/waymarkref1.Check; loop heads: [[1, 4]] -/
def ac15 : ACode :=
  (.seq
   (.reg [
     ⟨(some 1), (.box (.tmp 0)), none, []⟩,
     ⟨(some 2), (.move (.const (.int .i64 0))), none, []⟩,
     ⟨(some 3), (.move (.const (.int .i64 0))), none, []⟩] false [1])
   (.seq
    (.seq
     (.reg [
       ⟨(some 6), (.fieldAddr 1 (.tmp 1)), none, []⟩,
       ⟨(some 7), (.load false 1 (.tmp 6)), none, []⟩,
       ⟨(some 8), (.lenS (.tmp 7)), none, []⟩,
       ⟨(some 9), (.bin .gtr (.tmp 8) (.const (.int .i64 120))), none, []⟩] false [1, 9])
     (.cond (.tmp 9)
       (.seq
        (.reg [
          ⟨(some 2), (.move (.const (.int .i64 (-1)))), none, []⟩,
          ⟨(some 3), (.move (.const (.int .i64 6))), none, []⟩] false [2, 3])
        .ret)
       .skip))
    (.seq
     (.seq
      (.reg [
        ⟨(some 10), (.fieldAddr 0 (.tmp 1)), none, []⟩,
        ⟨(some 11), (.load false 1 (.tmp 10)), none, []⟩,
        ⟨(some 12), (.bin .lss (.tmp 11) (.const (.int .i64 1))), none, []⟩,
        ⟨(some 13), (.move (.tmp 12)), none, []⟩,
        ⟨(some 14), (.fieldAddr 0 (.tmp 1)), (some (13, false)), []⟩,
        ⟨(some 15), (.load false 1 (.tmp 14)), (some (13, false)), []⟩,
        ⟨(some 16), (.bin .gtr (.tmp 15) (.const (.int .i64 40))), (some (13, false)), []⟩,
        ⟨(some 17), (.pick (.tmp 13) (.const (.bool true)) (.tmp 16)), none, []⟩] false [1, 17])
      (.cond (.tmp 17)
        (.seq
         (.reg [
           ⟨(some 2), (.move (.const (.int .i64 (-1)))), none, []⟩,
           ⟨(some 3), (.move (.const (.int .i64 1))), none, []⟩] false [2, 3])
         .ret)
        .skip))
     (.seq
      (.seq
       (.reg [
         ⟨(some 4), (.move (.const (.int .i64 0))), none, []⟩] false [1, 4])
       (.block 0
         (.loop
           (.seq
            (.seq
             (.reg [
               ⟨(some 18), (.move (.tmp 4)), none, []⟩,
               ⟨(some 19), (.fieldAddr 1 (.tmp 1)), none, []⟩,
               ⟨(some 20), (.load false 1 (.tmp 19)), none, []⟩,
               ⟨(some 21), (.lenS (.tmp 20)), none, []⟩,
               ⟨(some 22), (.bin .lss (.tmp 18) (.tmp 21)), none, []⟩] false [1, 4, 22])
             (.cond (.tmp 22)
               .skip
               (.exit 0)))
            (.seq
             (.block 1
               (.seq
                (.reg [
                  ⟨(some 25), (.fieldAddr 1 (.tmp 1)), none, []⟩,
                  ⟨(some 26), (.load false 1 (.tmp 25)), none, []⟩,
                  ⟨(some 27), (.move (.tmp 4)), none, []⟩,
                  ⟨(some 28), (.indexAddrS 4 (.tmp 26) (.tmp 27)), none, []⟩,
                  ⟨(some 29), (.load true 4 (.tmp 28)), none, []⟩,
                  ⟨(some 5), (.alloc [(.sc (.int .i64 0)), (.sc (.int .i64 0)), (.sc (.int .i64 0)), (.sc (.int .i64 0))]), none, []⟩,
                  ⟨none, (.store 4 (.tmp 5) (.tmp 29)), none, []⟩] false [1, 4, 5])
                (.seq
                 (.seq
                  (.reg [
                    ⟨(some 30), (.fieldAddr 0 (.tmp 5)), none, []⟩,
                    ⟨(some 31), (.load false 1 (.tmp 30)), none, []⟩,
                    ⟨(some 32), (.bin .lss (.tmp 31) (.const (.int .i64 0))), none, []⟩,
                    ⟨(some 33), (.move (.tmp 32)), none, []⟩,
                    ⟨(some 34), (.fieldAddr 0 (.tmp 5)), (some (33, false)), []⟩,
                    ⟨(some 35), (.load false 1 (.tmp 34)), (some (33, false)), []⟩,
                    ⟨(some 36), (.fieldAddr 0 (.tmp 1)), (some (33, false)), []⟩,
                    ⟨(some 37), (.load false 1 (.tmp 36)), (some (33, false)), []⟩,
                    ⟨(some 38), (.bin .geq (.tmp 35) (.tmp 37)), (some (33, false)), []⟩,
                    ⟨(some 39), (.pick (.tmp 33) (.const (.bool true)) (.tmp 38)), none, []⟩,
                    ⟨(some 40), (.move (.tmp 39)), none, []⟩,
                    ⟨(some 41), (.fieldAddr 1 (.tmp 5)), (some (40, false)), []⟩,
                    ⟨(some 42), (.load false 1 (.tmp 41)), (some (40, false)), []⟩,
                    ⟨(some 43), (.bin .lss (.tmp 42) (.const (.int .i64 0))), (some (40, false)), []⟩,
                    ⟨(some 44), (.pick (.tmp 40) (.const (.bool true)) (.tmp 43)), none, []⟩,
                    ⟨(some 45), (.move (.tmp 44)), none, []⟩,
                    ⟨(some 46), (.fieldAddr 1 (.tmp 5)), (some (45, false)), []⟩,
                    ⟨(some 47), (.load false 1 (.tmp 46)), (some (45, false)), []⟩,
                    ⟨(some 48), (.fieldAddr 0 (.tmp 1)), (some (45, false)), []⟩,
                    ⟨(some 49), (.load false 1 (.tmp 48)), (some (45, false)), []⟩,
                    ⟨(some 50), (.bin .geq (.tmp 47) (.tmp 49)), (some (45, false)), []⟩,
                    ⟨(some 51), (.pick (.tmp 45) (.const (.bool true)) (.tmp 50)), none, []⟩,
                    ⟨(some 52), (.move (.tmp 51)), none, []⟩,
                    ⟨(some 53), (.fieldAddr 0 (.tmp 5)), (some (52, false)), []⟩,
                    ⟨(some 54), (.load false 1 (.tmp 53)), (some (52, false)), []⟩,
                    ⟨(some 55), (.fieldAddr 1 (.tmp 5)), (some (52, false)), []⟩,
                    ⟨(some 56), (.load false 1 (.tmp 55)), (some (52, false)), []⟩,
                    ⟨(some 57), (.bin .eql (.tmp 54) (.tmp 56)), (some (52, false)), []⟩,
                    ⟨(some 58), (.pick (.tmp 52) (.const (.bool true)) (.tmp 57)), none, []⟩] false [1, 4, 5, 58])
                  (.cond (.tmp 58)
                    (.seq
                     (.reg [
                       ⟨(some 59), (.move (.tmp 4)), none, []⟩,
                       ⟨(some 2), (.move (.tmp 59)), none, []⟩,
                       ⟨(some 3), (.move (.const (.int .i64 4))), none, []⟩] false [2, 3])
                     .ret)
                    .skip))
                 (.seq
                  (.reg [
                    ⟨(some 60), (.fieldAddr 2 (.tmp 5)), none, []⟩,
                    ⟨(some 61), (.load false 1 (.tmp 60)), none, []⟩,
                    ⟨(some 62), (.bin .lss (.tmp 61) (.const (.int .i64 1))), none, []⟩,
                    ⟨(some 63), (.move (.tmp 62)), none, []⟩,
                    ⟨(some 64), (.fieldAddr 2 (.tmp 5)), (some (63, false)), []⟩,
                    ⟨(some 65), (.load false 1 (.tmp 64)), (some (63, false)), []⟩,
                    ⟨(some 66), (.bin .gtr (.tmp 65) (.const (.int .i64 16777216))), (some (63, false)), []⟩,
                    ⟨(some 67), (.pick (.tmp 63) (.const (.bool true)) (.tmp 66)), none, []⟩,
                    ⟨(some 68), (.move (.tmp 67)), none, []⟩,
                    ⟨(some 69), (.fieldAddr 3 (.tmp 5)), (some (68, false)), []⟩,
                    ⟨(some 70), (.load false 1 (.tmp 69)), (some (68, false)), []⟩,
                    ⟨(some 71), (.bin .lss (.tmp 70) (.const (.int .i64 0))), (some (68, false)), []⟩,
                    ⟨(some 72), (.pick (.tmp 68) (.const (.bool true)) (.tmp 71)), none, []⟩,
                    ⟨(some 73), (.move (.tmp 72)), none, []⟩,
                    ⟨(some 74), (.fieldAddr 3 (.tmp 5)), (some (73, false)), []⟩,
                    ⟨(some 75), (.load false 1 (.tmp 74)), (some (73, false)), []⟩,
                    ⟨(some 76), (.bin .gtr (.tmp 75) (.const (.int .i64 62))), (some (73, false)), []⟩,
                    ⟨(some 77), (.pick (.tmp 73) (.const (.bool true)) (.tmp 76)), none, []⟩] false [1, 4, 77])
                  (.cond (.tmp 77)
                    (.seq
                     (.reg [
                       ⟨(some 78), (.move (.tmp 4)), none, []⟩,
                       ⟨(some 2), (.move (.tmp 78)), none, []⟩,
                       ⟨(some 3), (.move (.const (.int .i64 1))), none, []⟩] false [2, 3])
                     .ret)
                    .skip)))))
             (.reg [
               ⟨(some 23), (.move (.tmp 4)), none, []⟩,
               ⟨(some 24), (.bin .add (.tmp 23) (.const (.int .i64 1))), none, []⟩,
               ⟨(some 4), (.move (.tmp 24)), none, []⟩] false [1, 4]))))))
      (.seq
       (.reg [
         ⟨(some 2), (.move (.const (.int .i64 (-1)))), none, []⟩,
         ⟨(some 3), (.move (.const (.int .i64 0))), none, []⟩] false [2, 3])
       .ret)))))
-- simp set: ac15
theorem isF15 : IsFunc Try.prog 15 1 ac15 [.tmp 2, .tmp 3] := isFunc_of _ [(0, [1]), (1, [1, 9]), (2, [2, 3]), (3, [1, 17]), (4, [2, 3]), (5, [1, 4]), (6, [1, 4, 22]), (8, [1, 4, 5]), (9, [1, 4, 5, 58]), (10, [2, 3]), (11, [1, 4, 77]), (12, [2, 3]), (7, [1, 4]), (13, [2, 3])] Try.func15 (by kernel_rfl)
/-- waymark/waymarkref1.From; loop heads: [[1, 2, 3, 9, 10], [1, 3, 9, 11], [1, 3, 9, 11, 12]] -/
def op16_61 : List AOper := [
    ⟨(some 61), (.move (.tmp 9)), none, []⟩,
    ⟨(some 62), (.move (.tmp 13)), none, []⟩,
    ⟨(some 63), (.indexAddrS 1 (.tmp 61) (.tmp 62)), none, [0, 1]⟩,
    ⟨(some 64), (.load false 1 (.tmp 63)), none, [2]⟩,
    ⟨(some 65), (.fieldAddr 1 (.tmp 3)), none, []⟩,
    ⟨(some 66), (.load false 1 (.tmp 65)), none, [4]⟩,
    ⟨(some 67), (.move (.tmp 12)), none, []⟩,
    ⟨(some 68), (.bin .quo (.tmp 67) (.const (.int .i64 2))), none, [6]⟩,
    ⟨(some 69), (.indexAddrS 4 (.tmp 66) (.tmp 68)), none, [5, 7]⟩,
    ⟨(some 70), (.fieldAddr 2 (.tmp 69)), none, [8]⟩,
    ⟨(some 71), (.load false 1 (.tmp 70)), none, [9]⟩,
    ⟨(some 72), (.bin .add (.tmp 64) (.tmp 71)), none, [3, 10]⟩,
    ⟨(some 16), (.move (.tmp 72)), none, [11, 0, 1, 2, 3, 4, 5, 6, 7, 8, 9, 10, 11]⟩]
@[go_sem ↓] theorem op16_61_run {K : AExit → Fr → Store → Prop} {fr : Fr} {σ : Store} : wp Try.prog (.reg op16_61 true [1, 3, 9, 11, 12, 13, 14, 16]) K fr σ = wpOpsD Try.prog (Kreg [1, 3, 9, 11, 12, 13, 14, 16] K) op16_61 (Fr.get fr) σ := wp_draw (by kernel_rfl)
def ac16 : ACode :=
  (.seq
   (.reg [
     ⟨(some 3), (.box (.tmp 0)), none, []⟩,
     ⟨(some 6), (.move (.const (.slice none 0 0))), none, []⟩] false [1, 2, 3])
   (.seq
    (.reg [
      ⟨(some 18), (.load true 2 (.tmp 3)), none, []⟩,
      ⟨(some 19), (.callF 15 [(.tmp 18)]), none, []⟩,
      ⟨(some 17), (.move (.tmp 19)), none, []⟩,
      ⟨(some 20), (.extract (.tmp 17) 0), none, []⟩,
      ⟨(some 21), (.extract (.tmp 17) 1), none, []⟩,
      ⟨(some 7), (.move (.tmp 20)), none, []⟩,
      ⟨(some 8), (.move (.tmp 21)), none, []⟩] false [1, 2, 3, 8])
    (.seq
     (.seq
      (.reg [
        ⟨(some 22), (.move (.tmp 8)), none, []⟩,
        ⟨(some 23), (.bin .neq (.tmp 22) (.const (.int .i64 0))), none, []⟩,
        ⟨(some 24), (.move (.tmp 23)), none, []⟩,
        ⟨(some 25), (.load true 2 (.tmp 3)), (some (24, false)), []⟩,
        ⟨(some 26), (.move (.tmp 2)), (some (24, false)), []⟩,
        ⟨(some 27), (.callF 19 [(.tmp 25), (.tmp 26)]), (some (24, false)), []⟩,
        ⟨(some 28), (.un .not (.tmp 27)), (some (24, false)), []⟩,
        ⟨(some 29), (.pick (.tmp 24) (.const (.bool true)) (.tmp 28)), none, []⟩] false [1, 2, 3, 29])
      (.cond (.tmp 29)
        (.seq
         (.reg [
           ⟨(some 6), (.move (.const (.slice none 0 0))), none, []⟩] false [6])
         .ret)
        .skip))
     (.seq
      (.reg [
        ⟨(some 30), (.fieldAddr 0 (.tmp 3)), none, []⟩,
        ⟨(some 31), (.load false 1 (.tmp 30)), none, []⟩,
        ⟨(some 32), (.makeSlice 1 8 [(.sc (.int .i64 0))] (.tmp 31) (.tmp 31)), none, []⟩,
        ⟨(some 9), (.move (.tmp 32)), none, []⟩] false [1, 2, 3, 9])
      (.seq
       (.seq
        (.reg [
          ⟨(some 10), (.move (.const (.int .i64 0))), none, []⟩] false [1, 2, 3, 9, 10])
        (.block 0
          (.loop
            (.seq
             (.seq
              (.reg [
                ⟨(some 33), (.move (.tmp 10)), none, []⟩,
                ⟨(some 34), (.fieldAddr 0 (.tmp 3)), none, []⟩,
                ⟨(some 35), (.load false 1 (.tmp 34)), none, []⟩,
                ⟨(some 36), (.bin .lss (.tmp 33) (.tmp 35)), none, []⟩] false [1, 2, 3, 9, 10, 36])
              (.cond (.tmp 36)
                .skip
                (.exit 0)))
             (.seq
              (.block 1
                (.reg [
                  ⟨(some 39), (.move (.tmp 9)), none, []⟩,
                  ⟨(some 40), (.move (.tmp 10)), none, []⟩,
                  ⟨(some 41), (.indexAddrS 1 (.tmp 39) (.tmp 40)), none, []⟩,
                  ⟨none, (.store 1 (.tmp 41) (.const (.int .i64 (-1)))), none, []⟩] false [1, 2, 3, 9, 10]))
              (.reg [
                ⟨(some 37), (.move (.tmp 10)), none, []⟩,
                ⟨(some 38), (.bin .add (.tmp 37) (.const (.int .i64 1))), none, []⟩,
                ⟨(some 10), (.move (.tmp 38)), none, []⟩] false [1, 2, 3, 9, 10]))))))
       (.seq
        (.reg [
          ⟨(some 42), (.move (.tmp 9)), none, []⟩,
          ⟨(some 43), (.move (.tmp 2)), none, []⟩,
          ⟨(some 44), (.indexAddrS 1 (.tmp 42) (.tmp 43)), none, []⟩,
          ⟨none, (.store 1 (.tmp 44) (.const (.int .i64 0))), none, []⟩] false [1, 3, 9])
        (.seq
         (.seq
          (.reg [
            ⟨(some 11), (.move (.const (.bool true))), none, []⟩] false [1, 3, 9, 11])
          (.block 2
            (.loop
              (.seq
               (.seq
                (.reg [
                  ⟨(some 45), (.move (.tmp 11)), none, []⟩] false [1, 3, 9, 45])
                (.cond (.tmp 45)
                  .skip
                  (.exit 2)))
               (.block 3
                 (.seq
                  (.reg [
                    ⟨(some 11), (.move (.const (.bool false))), none, []⟩] false [1, 3, 9, 11])
                  (.seq
                   (.reg [
                     ⟨(some 12), (.move (.const (.int .i64 0))), none, []⟩] false [1, 3, 9, 11, 12])
                   (.block 4
                     (.loop
                       (.seq
                        (.seq
                         (.reg [
                           ⟨(some 46), (.move (.tmp 12)), none, []⟩,
                           ⟨(some 47), (.fieldAddr 1 (.tmp 3)), none, []⟩,
                           ⟨(some 48), (.load false 1 (.tmp 47)), none, []⟩,
                           ⟨(some 49), (.lenS (.tmp 48)), none, []⟩,
                           ⟨(some 50), (.bin .mul (.const (.int .i64 2)) (.tmp 49)), none, []⟩,
                           ⟨(some 51), (.bin .lss (.tmp 46) (.tmp 50)), none, []⟩] false [1, 3, 9, 11, 12, 51])
                         (.cond (.tmp 51)
                           .skip
                           (.exit 4)))
                        (.seq
                         (.block 5
                           (.seq
                            (.reg [
                              ⟨(some 55), (.load true 2 (.tmp 3)), none, []⟩,
                              ⟨(some 56), (.move (.tmp 12)), none, []⟩,
                              ⟨(some 57), (.callF 17 [(.tmp 55), (.tmp 56)]), none, []⟩,
                              ⟨(some 54), (.move (.tmp 57)), none, []⟩,
                              ⟨(some 58), (.extract (.tmp 54) 0), none, []⟩,
                              ⟨(some 59), (.extract (.tmp 54) 1), none, []⟩,
                              ⟨(some 60), (.extract (.tmp 54) 2), none, []⟩,
                              ⟨(some 13), (.move (.tmp 58)), none, []⟩,
                              ⟨(some 14), (.move (.tmp 59)), none, []⟩,
                              ⟨(some 15), (.move (.tmp 60)), none, []⟩] false [1, 3, 9, 11, 12, 13, 14])
                            (.seq
                             (.reg op16_61 true [1, 3, 9, 11, 12, 13, 14, 16])
                             (.seq
                              (.reg [
                                ⟨(some 73), (.move (.tmp 9)), none, []⟩,
                                ⟨(some 74), (.move (.tmp 13)), none, []⟩,
                                ⟨(some 75), (.indexAddrS 1 (.tmp 73) (.tmp 74)), none, []⟩,
                                ⟨(some 76), (.load false 1 (.tmp 75)), none, []⟩,
                                ⟨(some 77), (.bin .geq (.tmp 76) (.const (.int .i64 0))), none, []⟩,
                                ⟨(some 78), (.move (.tmp 77)), none, []⟩,
                                ⟨(some 79), (.move (.tmp 1)), (some (78, true)), []⟩,
                                ⟨(some 80), (.move (.tmp 12)), (some (78, true)), []⟩,
                                ⟨(some 81), (.bin .quo (.tmp 80) (.const (.int .i64 2))), (some (78, true)), []⟩,
                                ⟨(some 82), (.callF 18 [(.tmp 79), (.tmp 81)]), (some (78, true)), []⟩,
                                ⟨(some 83), (.un .not (.tmp 82)), (some (78, true)), []⟩,
                                ⟨(some 84), (.pick (.tmp 78) (.tmp 83) (.const (.bool false))), none, []⟩,
                                ⟨(some 85), (.move (.tmp 84)), none, []⟩,
                                ⟨(some 86), (.move (.tmp 9)), (some (85, true)), []⟩,
                                ⟨(some 87), (.move (.tmp 14)), (some (85, true)), []⟩,
                                ⟨(some 88), (.indexAddrS 1 (.tmp 86) (.tmp 87)), (some (85, true)), []⟩,
                                ⟨(some 89), (.load false 1 (.tmp 88)), (some (85, true)), []⟩,
                                ⟨(some 90), (.bin .lss (.tmp 89) (.const (.int .i64 0))), (some (85, true)), []⟩,
                                ⟨(some 91), (.move (.tmp 90)), (some (85, true)), []⟩,
                                ⟨(some 92), (.move (.tmp 16)), (some (91, false)), []⟩,
                                ⟨(some 93), (.move (.tmp 9)), (some (91, false)), []⟩,
                                ⟨(some 94), (.move (.tmp 14)), (some (91, false)), []⟩,
                                ⟨(some 95), (.indexAddrS 1 (.tmp 93) (.tmp 94)), (some (91, false)), []⟩,
                                ⟨(some 96), (.load false 1 (.tmp 95)), (some (91, false)), []⟩,
                                ⟨(some 97), (.bin .lss (.tmp 92) (.tmp 96)), (some (91, false)), []⟩,
                                ⟨(some 98), (.pick (.tmp 91) (.const (.bool true)) (.tmp 97)), (some (85, true)), []⟩,
                                ⟨(some 99), (.pick (.tmp 85) (.tmp 98) (.const (.bool false))), none, []⟩] false [1, 3, 9, 11, 12, 14, 16, 99])
                              (.cond (.tmp 99)
                                (.seq
                                 (.reg [
                                   ⟨(some 100), (.move (.tmp 9)), none, []⟩,
                                   ⟨(some 101), (.move (.tmp 14)), none, []⟩,
                                   ⟨(some 102), (.move (.tmp 16)), none, []⟩,
                                   ⟨(some 103), (.indexAddrS 1 (.tmp 100) (.tmp 101)), none, []⟩,
                                   ⟨none, (.store 1 (.tmp 103) (.tmp 102)), none, []⟩] false [1, 3, 9, 12])
                                 (.reg [
                                   ⟨(some 11), (.move (.const (.bool true))), none, []⟩] false [1, 3, 9, 11, 12]))
                                .skip)))))
                         (.reg [
                           ⟨(some 52), (.move (.tmp 12)), none, []⟩,
                           ⟨(some 53), (.bin .add (.tmp 52) (.const (.int .i64 1))), none, []⟩,
                           ⟨(some 12), (.move (.tmp 53)), none, []⟩] false [1, 3, 9, 11, 12]))))))))))))
         (.seq
          (.reg [
            ⟨(some 104), (.move (.tmp 9)), none, []⟩,
            ⟨(some 6), (.move (.tmp 104)), none, []⟩] false [6])
          .ret))))))))
-- simp set: ac16, op16_61
theorem isF16 : IsFunc Try.prog 16 3 ac16 [.tmp 6] := isFunc_of _ [(0, [1, 2, 3]), (1, [1, 2, 3, 8]), (2, [1, 2, 3, 29]), (3, [6]), (4, [1, 2, 3, 9]), (5, [1, 2, 3, 9, 10]), (6, [1, 2, 3, 9, 10, 36]), (8, [1, 2, 3, 9, 10]), (7, [1, 2, 3, 9, 10]), (9, [1, 3, 9]), (10, [1, 3, 9, 11]), (11, [1, 3, 9, 45]), (12, [1, 3, 9, 11]), (13, [1, 3, 9, 11, 12]), (14, [1, 3, 9, 11, 12, 51]), (16, [1, 3, 9, 11, 12, 13, 14]), (17, [1, 3, 9, 11, 12, 13, 14, 16]), (18, [1, 3, 9, 11, 12, 14, 16, 99]), (19, [1, 3, 9, 12]), (20, [1, 3, 9, 11, 12]), (15, [1, 3, 9, 11, 12]), (21, [6])] Try.func16 (by kernel_rfl)
/-- waymark/waymarkref1.Ends; loop heads: [] -/
def op17_27 : List AOper := [
    ⟨(some 27), (.fieldAddr 1 (.tmp 7)), none, []⟩,
    ⟨(some 28), (.load false 1 (.tmp 27)), none, [0]⟩,
    ⟨(some 29), (.fieldAddr 0 (.tmp 7)), none, []⟩,
    ⟨(some 30), (.load false 1 (.tmp 29)), none, [2]⟩,
    ⟨(some 4), (.move (.tmp 28)), none, [1, 0, 1]⟩,
    ⟨(some 5), (.move (.tmp 30)), none, [3, 4, 0, 1, 2, 3, 4]⟩,
    ⟨(some 6), (.move (.const (.bool true))), none, [5, 0, 1, 2, 3, 4, 5]⟩]
@[go_sem ↓] theorem op17_27_run {K : AExit → Fr → Store → Prop} {fr : Fr} {σ : Store} : wp Try.prog (.reg op17_27 true [4, 5, 6]) K fr σ = wpOpsD Try.prog (Kreg [4, 5, 6] K) op17_27 (Fr.get fr) σ := wp_draw (by kernel_rfl)
def op17_31 : List AOper := [
    ⟨(some 31), (.fieldAddr 0 (.tmp 7)), none, []⟩,
    ⟨(some 32), (.load false 1 (.tmp 31)), none, [0]⟩,
    ⟨(some 33), (.fieldAddr 1 (.tmp 7)), none, []⟩,
    ⟨(some 34), (.load false 1 (.tmp 33)), none, [2]⟩,
    ⟨(some 4), (.move (.tmp 32)), none, [1, 0, 1]⟩,
    ⟨(some 5), (.move (.tmp 34)), none, [3, 4, 0, 1, 2, 3, 4]⟩,
    ⟨(some 6), (.move (.const (.bool true))), none, [5, 0, 1, 2, 3, 4, 5]⟩]
@[go_sem ↓] theorem op17_31_run {K : AExit → Fr → Store → Prop} {fr : Fr} {σ : Store} : wp Try.prog (.reg op17_31 true [4, 5, 6]) K fr σ = wpOpsD Try.prog (Kreg [4, 5, 6] K) op17_31 (Fr.get fr) σ := wp_draw (by kernel_rfl)
def ac17 : ACode :=
  (.seq
   (.reg [
     ⟨(some 2), (.box (.tmp 0)), none, []⟩,
     ⟨(some 4), (.move (.const (.int .i64 0))), none, []⟩,
     ⟨(some 5), (.move (.const (.int .i64 0))), none, []⟩,
     ⟨(some 6), (.move (.const (.bool false))), none, []⟩] false [1, 2])
   (.seq
    (.seq
     (.reg [
       ⟨(some 8), (.move (.tmp 1)), none, []⟩,
       ⟨(some 9), (.bin .lss (.tmp 8) (.const (.int .i64 0))), none, []⟩,
       ⟨(some 10), (.move (.tmp 9)), none, []⟩,
       ⟨(some 11), (.move (.tmp 1)), (some (10, false)), []⟩,
       ⟨(some 12), (.bin .quo (.tmp 11) (.const (.int .i64 2))), (some (10, false)), []⟩,
       ⟨(some 13), (.fieldAddr 1 (.tmp 2)), (some (10, false)), []⟩,
       ⟨(some 14), (.load false 1 (.tmp 13)), (some (10, false)), []⟩,
       ⟨(some 15), (.lenS (.tmp 14)), (some (10, false)), []⟩,
       ⟨(some 16), (.bin .geq (.tmp 12) (.tmp 15)), (some (10, false)), []⟩,
       ⟨(some 17), (.pick (.tmp 10) (.const (.bool true)) (.tmp 16)), none, []⟩] false [1, 2, 17])
     (.cond (.tmp 17)
       (.seq
        (.reg [
          ⟨(some 4), (.move (.const (.int .i64 0))), none, []⟩,
          ⟨(some 5), (.move (.const (.int .i64 0))), none, []⟩,
          ⟨(some 6), (.move (.const (.bool false))), none, []⟩] false [4, 5, 6])
        .ret)
       .skip))
    (.seq
     (.reg [
       ⟨(some 18), (.fieldAddr 1 (.tmp 2)), none, []⟩,
       ⟨(some 19), (.load false 1 (.tmp 18)), none, []⟩,
       ⟨(some 20), (.move (.tmp 1)), none, []⟩,
       ⟨(some 21), (.bin .quo (.tmp 20) (.const (.int .i64 2))), none, []⟩,
       ⟨(some 22), (.indexAddrS 4 (.tmp 19) (.tmp 21)), none, []⟩,
       ⟨(some 23), (.load true 4 (.tmp 22)), none, []⟩,
       ⟨(some 7), (.alloc [(.sc (.int .i64 0)), (.sc (.int .i64 0)), (.sc (.int .i64 0)), (.sc (.int .i64 0))]), none, []⟩,
       ⟨none, (.store 4 (.tmp 7) (.tmp 23)), none, []⟩] false [1, 7])
     (.seq
      (.seq
       (.reg [
         ⟨(some 24), (.move (.tmp 1)), none, []⟩,
         ⟨(some 25), (.bin .rem (.tmp 24) (.const (.int .i64 2))), none, []⟩,
         ⟨(some 26), (.bin .eql (.tmp 25) (.const (.int .i64 1))), none, []⟩] false [7, 26])
       (.cond (.tmp 26)
         (.seq
          (.reg op17_27 true [4, 5, 6])
          .ret)
         .skip))
      (.seq
       (.reg op17_31 true [4, 5, 6])
       .ret)))))
-- simp set: ac17, op17_27, op17_31
theorem isF17 : IsFunc Try.prog 17 2 ac17 [.tmp 4, .tmp 5, .tmp 6] := isFunc_of _ [(0, [1, 2]), (1, [1, 2, 17]), (2, [4, 5, 6]), (3, [1, 7]), (4, [7, 26]), (5, [4, 5, 6]), (6, [4, 5, 6])] Try.func17 (by kernel_rfl)
/-- waymark/waymarkref1.IsDown; loop heads: [] -/
def ac18 : ACode :=
  (.seq
   (.reg [
     ⟨(some 4), (.move (.const (.bool false))), none, []⟩] false [0, 1])
   (.seq
    (.reg [
      ⟨(some 5), (.move (.tmp 1)), none, []⟩,
      ⟨(some 6), (.bin .geq (.tmp 5) (.const (.int .i64 0))), none, []⟩,
      ⟨(some 7), (.move (.tmp 6)), none, []⟩,
      ⟨(some 8), (.move (.tmp 1)), (some (7, true)), []⟩,
      ⟨(some 9), (.move (.tmp 0)), (some (7, true)), []⟩,
      ⟨(some 10), (.lenS (.tmp 9)), (some (7, true)), []⟩,
      ⟨(some 11), (.bin .lss (.tmp 8) (.tmp 10)), (some (7, true)), []⟩,
      ⟨(some 12), (.pick (.tmp 7) (.tmp 11) (.const (.bool false))), none, []⟩,
      ⟨(some 13), (.move (.tmp 12)), none, []⟩,
      ⟨(some 14), (.move (.tmp 0)), (some (13, true)), []⟩,
      ⟨(some 15), (.move (.tmp 1)), (some (13, true)), []⟩,
      ⟨(some 16), (.indexAddrS 1 (.tmp 14) (.tmp 15)), (some (13, true)), []⟩,
      ⟨(some 17), (.load false 1 (.tmp 16)), (some (13, true)), []⟩,
      ⟨(some 18), (.pick (.tmp 13) (.tmp 17) (.const (.bool false))), none, []⟩,
      ⟨(some 4), (.move (.tmp 18)), none, []⟩] false [4])
    .ret))
-- simp set: ac18
theorem isF18 : IsFunc Try.prog 18 2 ac18 [.tmp 4] := isFunc_of _ [(0, [0, 1]), (1, [4])] Try.func18 (by kernel_rfl)
/-- waymark/waymarkref1.Node; loop heads: [] -/
def ac19 : ACode :=
  (.seq
   (.reg [
     ⟨(some 2), (.box (.tmp 0)), none, []⟩,
     ⟨(some 4), (.move (.const (.bool false))), none, []⟩] false [1, 2])
   (.seq
    (.reg [
      ⟨(some 5), (.move (.tmp 1)), none, []⟩,
      ⟨(some 6), (.bin .geq (.tmp 5) (.const (.int .i64 0))), none, []⟩,
      ⟨(some 7), (.move (.tmp 6)), none, []⟩,
      ⟨(some 8), (.move (.tmp 1)), (some (7, true)), []⟩,
      ⟨(some 9), (.fieldAddr 0 (.tmp 2)), (some (7, true)), []⟩,
      ⟨(some 10), (.load false 1 (.tmp 9)), (some (7, true)), []⟩,
      ⟨(some 11), (.bin .lss (.tmp 8) (.tmp 10)), (some (7, true)), []⟩,
      ⟨(some 12), (.pick (.tmp 7) (.tmp 11) (.const (.bool false))), none, []⟩,
      ⟨(some 4), (.move (.tmp 12)), none, []⟩] false [4])
    .ret))
-- simp set: ac19
theorem isF19 : IsFunc Try.prog 19 2 ac19 [.tmp 4] := isFunc_of _ [(0, [1, 2]), (1, [4])] Try.func19 (by kernel_rfl)
/-- waymark/waymarkref1.counts; loop heads: [[1, 2, 3, 4, 5, 6, 7, 14, 15, 16]] -/
def op20_45 : List AOper := [
    ⟨(some 45), (.load true 2 (.tmp 7)), none, []⟩,
    ⟨(some 46), (.move (.tmp 15)), none, []⟩,
    ⟨(some 47), (.move (.tmp 16)), none, []⟩,
    ⟨(some 48), (.indexAddrS 1 (.tmp 46) (.tmp 47)), none, [1, 2]⟩,
    ⟨(some 49), (.load false 1 (.tmp 48)), none, [3]⟩,
    ⟨(some 50), (.callF 17 [(.tmp 45), (.tmp 49)]), none, [0, 4]⟩,
    ⟨(some 44), (.move (.tmp 50)), none, [5]⟩,
    ⟨(some 51), (.extract (.tmp 44) 0), none, [6]⟩,
    ⟨(some 52), (.extract (.tmp 44) 1), none, [6]⟩,
    ⟨(some 53), (.extract (.tmp 44) 2), none, [6]⟩,
    ⟨(some 17), (.move (.tmp 51)), none, [7, 5, 0, 1, 2, 3, 4, 5, 6, 7]⟩,
    ⟨(some 18), (.move (.tmp 52)), none, [8, 10, 0, 1, 2, 3, 4, 5, 6, 7, 8, 10]⟩,
    ⟨(some 19), (.move (.tmp 53)), none, [9, 11, 0, 1, 2, 3, 4, 5, 6, 7, 8, 9, 10, 11]⟩]
@[go_sem ↓] theorem op20_45_run {K : AExit → Fr → Store → Prop} {fr : Fr} {σ : Store} : wp Try.prog (.reg op20_45 true [1, 2, 3, 4, 5, 6, 7, 14, 15, 16, 18]) K fr σ = wpOpsD Try.prog (Kreg [1, 2, 3, 4, 5, 6, 7, 14, 15, 16, 18] K) op20_45 (Fr.get fr) σ := wp_draw (by kernel_rfl)
def op20_69 : List AOper := [
    ⟨(some 69), (.move (.tmp 16)), none, []⟩,
    ⟨(some 70), (.bin .eql (.tmp 69) (.const (.int .i64 0))), none, [0]⟩,
    ⟨(some 71), (.move (.tmp 70)), none, [1]⟩,
    ⟨(some 72), (.move (.tmp 5)), (some (71, false)), [2]⟩,
    ⟨(some 73), (.move (.tmp 18)), (some (71, false)), [2]⟩,
    ⟨(some 74), (.indexAddrS 1 (.tmp 72) (.tmp 73)), (some (71, false)), [3, 4, 2]⟩,
    ⟨(some 75), (.load false 1 (.tmp 74)), (some (71, false)), [5, 2]⟩,
    ⟨(some 76), (.bin .add (.tmp 75) (.const (.int .i64 1))), (some (71, false)), [6, 2]⟩,
    ⟨(some 77), (.move (.tmp 5)), (some (71, false)), [2]⟩,
    ⟨(some 78), (.move (.tmp 3)), (some (71, false)), [2]⟩,
    ⟨(some 79), (.indexAddrS 1 (.tmp 77) (.tmp 78)), (some (71, false)), [8, 9, 2]⟩,
    ⟨(some 80), (.load false 1 (.tmp 79)), (some (71, false)), [10, 2]⟩,
    ⟨(some 81), (.bin .lss (.tmp 76) (.tmp 80)), (some (71, false)), [7, 11, 2]⟩,
    ⟨(some 82), (.pick (.tmp 71) (.const (.bool true)) (.tmp 81)), none, [2, 12]⟩]
@[go_sem ↓] theorem op20_69_run {K : AExit → Fr → Store → Prop} {fr : Fr} {σ : Store} : wp Try.prog (.reg op20_69 true [1, 2, 3, 4, 5, 6, 7, 14, 15, 16, 18, 82]) K fr σ = wpOpsD Try.prog (Kreg [1, 2, 3, 4, 5, 6, 7, 14, 15, 16, 18, 82] K) op20_69 (Fr.get fr) σ := wp_draw (by kernel_rfl)
def op20_91 : List AOper := [
    ⟨(some 91), (.move (.tmp 6)), none, []⟩,
    ⟨(some 92), (.move (.tmp 18)), none, []⟩,
    ⟨(some 93), (.indexAddrS 1 (.tmp 91) (.tmp 92)), none, [0, 1]⟩,
    ⟨(some 94), (.load false 1 (.tmp 93)), none, [2]⟩,
    ⟨(some 95), (.bin .add (.tmp 94) (.const (.int .i64 1))), none, [3]⟩,
    ⟨(some 96), (.move (.tmp 6)), none, []⟩,
    ⟨(some 97), (.move (.tmp 3)), none, []⟩,
    ⟨(some 98), (.indexAddrS 1 (.tmp 96) (.tmp 97)), none, [5, 6]⟩,
    ⟨(some 99), (.load false 1 (.tmp 98)), none, [7]⟩,
    ⟨(some 100), (.bin .gtr (.tmp 95) (.tmp 99)), none, [4, 8]⟩]
@[go_sem ↓] theorem op20_91_run {K : AExit → Fr → Store → Prop} {fr : Fr} {σ : Store} : wp Try.prog (.reg op20_91 true [1, 2, 3, 4, 5, 6, 7, 14, 15, 16, 18, 100]) K fr σ = wpOpsD Try.prog (Kreg [1, 2, 3, 4, 5, 6, 7, 14, 15, 16, 18, 100] K) op20_91 (Fr.get fr) σ := wp_draw (by kernel_rfl)
def ac20 : ACode :=
  (.seq
   (.reg [
     ⟨(some 7), (.box (.tmp 0)), none, []⟩] false [1, 2, 3, 4, 5, 6, 7])
   (.seq
    (.seq
     (.reg [
       ⟨(some 20), (.move (.tmp 4)), none, []⟩,
       ⟨(some 21), (.move (.tmp 3)), none, []⟩,
       ⟨(some 22), (.indexAddrS 1 (.tmp 20) (.tmp 21)), none, []⟩,
       ⟨(some 23), (.load false 1 (.tmp 22)), none, []⟩,
       ⟨(some 24), (.bin .geq (.tmp 23) (.const (.int .i64 0))), none, []⟩] false [1, 2, 3, 4, 5, 6, 7, 24])
     (.cond (.tmp 24)
       .ret
       .skip))
    (.seq
     (.seq
      (.reg [
        ⟨(some 25), (.move (.tmp 2)), none, []⟩,
        ⟨(some 26), (.move (.tmp 3)), none, []⟩,
        ⟨(some 27), (.indexAddrS 1 (.tmp 25) (.tmp 26)), none, []⟩,
        ⟨(some 28), (.load false 1 (.tmp 27)), none, []⟩,
        ⟨(some 29), (.bin .eql (.tmp 28) (.const (.int .i64 0))), none, []⟩] false [1, 2, 3, 4, 5, 6, 7, 29])
      (.cond (.tmp 29)
        (.seq
         (.reg [
           ⟨(some 30), (.move (.tmp 4)), none, []⟩,
           ⟨(some 31), (.move (.tmp 3)), none, []⟩,
           ⟨(some 32), (.indexAddrS 1 (.tmp 30) (.tmp 31)), none, []⟩,
           ⟨none, (.store 1 (.tmp 32) (.const (.int .i64 1))), none, []⟩] false [])
         .ret)
        .skip))
     (.seq
      (.reg [
        ⟨(some 14), (.move (.const (.int .i64 0))), none, []⟩] false [1, 2, 3, 4, 5, 6, 7, 14])
      (.seq
       (.reg [
         ⟨(some 33), (.load true 2 (.tmp 7)), none, []⟩,
         ⟨(some 34), (.move (.tmp 1)), none, []⟩,
         ⟨(some 35), (.move (.tmp 2)), none, []⟩,
         ⟨(some 36), (.move (.tmp 3)), none, []⟩,
         ⟨(some 37), (.callF 24 [(.tmp 33), (.tmp 34), (.tmp 35), (.tmp 36)]), none, []⟩,
         ⟨(some 15), (.move (.tmp 37)), none, []⟩] false [1, 2, 3, 4, 5, 6, 7, 14, 15])
       (.seq
        (.seq
         (.reg [
           ⟨(some 16), (.move (.const (.int .i64 0))), none, []⟩] false [1, 2, 3, 4, 5, 6, 7, 14, 15, 16])
         (.block 0
           (.loop
             (.seq
              (.seq
               (.reg [
                 ⟨(some 38), (.move (.tmp 16)), none, []⟩,
                 ⟨(some 39), (.move (.tmp 15)), none, []⟩,
                 ⟨(some 40), (.lenS (.tmp 39)), none, []⟩,
                 ⟨(some 41), (.bin .lss (.tmp 38) (.tmp 40)), none, []⟩] false [1, 2, 3, 4, 5, 6, 7, 14, 15, 16, 41])
               (.cond (.tmp 41)
                 .skip
                 (.exit 0)))
              (.seq
               (.block 1
                 (.seq
                  (.reg op20_45 true [1, 2, 3, 4, 5, 6, 7, 14, 15, 16, 18])
                  (.seq
                   (.reg [
                     ⟨(some 54), (.load true 2 (.tmp 7)), none, []⟩,
                     ⟨(some 55), (.move (.tmp 1)), none, []⟩,
                     ⟨(some 56), (.move (.tmp 2)), none, []⟩,
                     ⟨(some 57), (.move (.tmp 18)), none, []⟩,
                     ⟨(some 58), (.move (.tmp 4)), none, []⟩,
                     ⟨(some 59), (.move (.tmp 5)), none, []⟩,
                     ⟨(some 60), (.move (.tmp 6)), none, []⟩,
                     ⟨(some 61), (.callF 20 [(.tmp 54), (.tmp 55), (.tmp 56), (.tmp 57), (.tmp 58), (.tmp 59), (.tmp 60)]), none, []⟩] false [1, 2, 3, 4, 5, 6, 7, 14, 15, 16, 18])
                   (.seq
                    (.reg [
                      ⟨(some 62), (.move (.tmp 14)), none, []⟩,
                      ⟨(some 63), (.move (.tmp 4)), none, []⟩,
                      ⟨(some 64), (.move (.tmp 18)), none, []⟩,
                      ⟨(some 65), (.indexAddrS 1 (.tmp 63) (.tmp 64)), none, []⟩,
                      ⟨(some 66), (.load false 1 (.tmp 65)), none, []⟩,
                      ⟨(some 67), (.bin .add (.tmp 62) (.tmp 66)), none, []⟩,
                      ⟨(some 68), (.callF 14 [(.tmp 67), (.const (.int .i64 0)), (.const (.int .i64 1099511627776))]), none, []⟩,
                      ⟨(some 14), (.move (.tmp 68)), none, []⟩] false [1, 2, 3, 4, 5, 6, 7, 14, 15, 16, 18])
                    (.seq
                     (.seq
                      (.reg op20_69 true [1, 2, 3, 4, 5, 6, 7, 14, 15, 16, 18, 82])
                      (.cond (.tmp 82)
                        (.reg [
                          ⟨(some 83), (.move (.tmp 5)), none, []⟩,
                          ⟨(some 84), (.move (.tmp 3)), none, []⟩,
                          ⟨(some 85), (.move (.tmp 5)), none, []⟩,
                          ⟨(some 86), (.move (.tmp 18)), none, []⟩,
                          ⟨(some 87), (.indexAddrS 1 (.tmp 85) (.tmp 86)), none, []⟩,
                          ⟨(some 88), (.load false 1 (.tmp 87)), none, []⟩,
                          ⟨(some 89), (.bin .add (.tmp 88) (.const (.int .i64 1))), none, []⟩,
                          ⟨(some 90), (.indexAddrS 1 (.tmp 83) (.tmp 84)), none, []⟩,
                          ⟨none, (.store 1 (.tmp 90) (.tmp 89)), none, []⟩] false [1, 2, 3, 4, 5, 6, 7, 14, 15, 16, 18])
                        .skip))
                     (.seq
                      (.reg op20_91 true [1, 2, 3, 4, 5, 6, 7, 14, 15, 16, 18, 100])
                      (.cond (.tmp 100)
                        (.reg [
                          ⟨(some 101), (.move (.tmp 6)), none, []⟩,
                          ⟨(some 102), (.move (.tmp 3)), none, []⟩,
                          ⟨(some 103), (.move (.tmp 6)), none, []⟩,
                          ⟨(some 104), (.move (.tmp 18)), none, []⟩,
                          ⟨(some 105), (.indexAddrS 1 (.tmp 103) (.tmp 104)), none, []⟩,
                          ⟨(some 106), (.load false 1 (.tmp 105)), none, []⟩,
                          ⟨(some 107), (.bin .add (.tmp 106) (.const (.int .i64 1))), none, []⟩,
                          ⟨(some 108), (.indexAddrS 1 (.tmp 101) (.tmp 102)), none, []⟩,
                          ⟨none, (.store 1 (.tmp 108) (.tmp 107)), none, []⟩] false [1, 2, 3, 4, 5, 6, 7, 14, 15, 16])
                        .skip)))))))
               (.reg [
                 ⟨(some 42), (.move (.tmp 16)), none, []⟩,
                 ⟨(some 43), (.bin .add (.tmp 42) (.const (.int .i64 1))), none, []⟩,
                 ⟨(some 16), (.move (.tmp 43)), none, []⟩] false [1, 2, 3, 4, 5, 6, 7, 14, 15, 16]))))))
        (.reg [
          ⟨(some 109), (.move (.tmp 4)), none, []⟩,
          ⟨(some 110), (.move (.tmp 3)), none, []⟩,
          ⟨(some 111), (.move (.tmp 14)), none, []⟩,
          ⟨(some 112), (.indexAddrS 1 (.tmp 109) (.tmp 110)), none, []⟩,
          ⟨none, (.store 1 (.tmp 112) (.tmp 111)), none, []⟩] false [])))))))
-- simp set: ac20, op20_45, op20_69, op20_91
theorem isF20 : IsFunc Try.prog 20 7 ac20 [] := isFunc_of _ [(0, [1, 2, 3, 4, 5, 6, 7]), (1, [1, 2, 3, 4, 5, 6, 7, 24]), (2, [1, 2, 3, 4, 5, 6, 7, 29]), (4, [1, 2, 3, 4, 5, 6, 7, 14]), (5, [1, 2, 3, 4, 5, 6, 7, 14, 15]), (6, [1, 2, 3, 4, 5, 6, 7, 14, 15, 16]), (7, [1, 2, 3, 4, 5, 6, 7, 14, 15, 16, 41]), (9, [1, 2, 3, 4, 5, 6, 7, 14, 15, 16, 18]), (10, [1, 2, 3, 4, 5, 6, 7, 14, 15, 16, 18]), (11, [1, 2, 3, 4, 5, 6, 7, 14, 15, 16, 18]), (12, [1, 2, 3, 4, 5, 6, 7, 14, 15, 16, 18, 82]), (13, [1, 2, 3, 4, 5, 6, 7, 14, 15, 16, 18]), (14, [1, 2, 3, 4, 5, 6, 7, 14, 15, 16, 18, 100]), (15, [1, 2, 3, 4, 5, 6, 7, 14, 15, 16]), (8, [1, 2, 3, 4, 5, 6, 7, 14, 15, 16])] Try.func20 (by kernel_rfl)
/-- waymark/dag.find; loop heads: [[1, 4, 8, 9, 10, 11, 12], [1, 4, 8, 9, 10, 11, 12, 79, 80, 81]] -/
def op21_66 : List AOper := [
    ⟨(some 66), (.fieldAddr 1 (.tmp 10)), none, []⟩,
    ⟨(some 67), (.load false 1 (.tmp 66)), none, [0]⟩,
    ⟨(some 68), (.move (.tmp 13)), none, []⟩,
    ⟨(some 69), (.load true 2 (.tmp 4)), none, []⟩,
    ⟨(some 70), (.move (.tmp 1)), none, []⟩,
    ⟨(some 71), (.load false 1 (.tmp 9)), none, []⟩,
    ⟨(some 72), (.move (.tmp 13)), none, []⟩,
    ⟨(some 73), (.callF 27 [(.tmp 69), (.tmp 70), (.tmp 71), (.tmp 72)]), none, [3, 4, 5, 6]⟩,
    ⟨(some 74), (.indexAddrS 1 (.tmp 67) (.tmp 68)), none, [1, 2, 0, 1, 2, 3, 4, 5, 6, 7]⟩,
    ⟨none, (.store 1 (.tmp 74) (.tmp 73)), none, [8, 7, 7, 0, 1, 2, 3, 4, 5, 6, 7]⟩]
@[go_sem ↓] theorem op21_66_run {K : AExit → Fr → Store → Prop} {fr : Fr} {σ : Store} : wp Try.prog (.reg op21_66 true [1, 4, 8, 9, 10, 11, 12, 13]) K fr σ = wpOpsD Try.prog (Kreg [1, 4, 8, 9, 10, 11, 12, 13] K) op21_66 (Fr.get fr) σ := wp_draw (by kernel_rfl)
def ac21 : ACode :=
  (.seq
   (.reg [
     ⟨(some 4), (.box (.tmp 0)), none, []⟩,
     ⟨(some 8), (.alloc [.nils, .nils, (.sc (.bool false))]), none, []⟩] false [1, 2, 3, 4, 8])
   (.seq
    (.reg [
      ⟨(some 19), (.load true 2 (.tmp 4)), none, []⟩,
      ⟨(some 20), (.move (.tmp 1)), none, []⟩,
      ⟨(some 21), (.move (.tmp 3)), none, []⟩,
      ⟨(some 22), (.callF 25 [(.tmp 19), (.tmp 20), (.tmp 21)]), none, []⟩,
      ⟨(some 9), (.alloc [.nils]), none, []⟩,
      ⟨none, (.store 1 (.tmp 9) (.tmp 22)), none, []⟩] false [1, 2, 4, 8, 9])
    (.seq
     (.seq
      (.reg [
        ⟨(some 23), (.load false 1 (.tmp 9)), none, []⟩,
        ⟨(some 24), (.lenS (.tmp 23)), none, []⟩,
        ⟨(some 25), (.bin .eql (.tmp 24) (.const (.int .i64 0))), none, []⟩,
        ⟨(some 26), (.move (.tmp 25)), none, []⟩,
        ⟨(some 27), (.load true 2 (.tmp 4)), (some (26, false)), []⟩,
        ⟨(some 28), (.move (.tmp 2)), (some (26, false)), []⟩,
        ⟨(some 29), (.callF 26 [(.tmp 27), (.tmp 28)]), (some (26, false)), []⟩,
        ⟨(some 30), (.un .not (.tmp 29)), (some (26, false)), []⟩,
        ⟨(some 31), (.pick (.tmp 26) (.const (.bool true)) (.tmp 30)), none, []⟩,
        ⟨(some 32), (.move (.tmp 31)), none, []⟩,
        ⟨(some 33), (.load false 1 (.tmp 9)), (some (32, false)), []⟩,
        ⟨(some 34), (.move (.tmp 2)), (some (32, false)), []⟩,
        ⟨(some 35), (.indexAddrS 1 (.tmp 33) (.tmp 34)), (some (32, false)), []⟩,
        ⟨(some 36), (.load false 1 (.tmp 35)), (some (32, false)), []⟩,
        ⟨(some 37), (.bin .lss (.tmp 36) (.const (.int .i64 0))), (some (32, false)), []⟩,
        ⟨(some 38), (.pick (.tmp 32) (.const (.bool true)) (.tmp 37)), none, []⟩] false [1, 2, 4, 8, 9, 38])
      (.cond (.tmp 38)
        (.seq
         (.reg [
           ⟨(some 39), (.build [.nils, .nils, (.sc (.bool false))] []), none, []⟩,
           ⟨none, (.store 3 (.tmp 8) (.tmp 39)), none, []⟩] false [8])
         .ret)
        .skip))
     (.seq
      (.reg [
        ⟨(some 40), (.fieldAddr 0 (.tmp 4)), none, []⟩,
        ⟨(some 41), (.load false 1 (.tmp 40)), none, []⟩,
        ⟨(some 42), (.makeSlice 1 24 [.nils] (.tmp 41) (.tmp 41)), none, []⟩,
        ⟨(some 43), (.build [.nils, .nils, (.sc (.bool false))] [(1, 1, (.tmp 42)), (2, 1, (.const (.bool true)))]), none, []⟩,
        ⟨(some 10), (.alloc [.nils, .nils, (.sc (.bool false))]), none, []⟩,
        ⟨none, (.store 3 (.tmp 10) (.tmp 43)), none, []⟩] false [1, 2, 4, 8, 9, 10])
      (.seq
       (.reg [
         ⟨(some 44), (.fieldAddr 0 (.tmp 4)), none, []⟩,
         ⟨(some 45), (.load false 1 (.tmp 44)), none, []⟩,
         ⟨(some 46), (.makeSlice 1 1 [(.sc (.bool false))] (.tmp 45) (.tmp 45)), none, []⟩,
         ⟨(some 11), (.move (.tmp 46)), none, []⟩] false [1, 2, 4, 8, 9, 10, 11])
       (.seq
        (.reg [
          ⟨(some 47), (.move (.tmp 11)), none, []⟩,
          ⟨(some 48), (.move (.tmp 2)), none, []⟩,
          ⟨(some 49), (.indexAddrS 1 (.tmp 47) (.tmp 48)), none, []⟩,
          ⟨none, (.store 1 (.tmp 49) (.const (.bool true))), none, []⟩] false [1, 2, 4, 8, 9, 10, 11])
        (.seq
         (.seq
          (.reg [
            ⟨(some 50), (.move (.tmp 2)), none, []⟩,
            ⟨(some 51), (.buildSlice 1 1 [(.sc (.int .i64 0))] [(0, (.tmp 50))]), none, []⟩,
            ⟨(some 12), (.move (.tmp 51)), none, []⟩] false [1, 4, 8, 9, 10, 11, 12])
          (.block 0
            (.loop
              (.seq
               (.seq
                (.reg [
                  ⟨(some 52), (.move (.tmp 12)), none, []⟩,
                  ⟨(some 53), (.lenS (.tmp 52)), none, []⟩,
                  ⟨(some 54), (.bin .gtr (.tmp 53) (.const (.int .i64 0))), none, []⟩] false [1, 4, 8, 9, 10, 11, 12, 54])
                (.cond (.tmp 54)
                  .skip
                  (.exit 0)))
               (.seq
                (.block 1
                  (.seq
                   (.reg [
                     ⟨(some 57), (.move (.tmp 12)), none, []⟩,
                     ⟨(some 58), (.indexAddrS 1 (.tmp 57) (.const (.int .i64 0))), none, []⟩,
                     ⟨(some 59), (.load false 1 (.tmp 58)), none, []⟩,
                     ⟨(some 13), (.move (.tmp 59)), none, []⟩] false [1, 4, 8, 9, 10, 11, 12, 13])
                   (.seq
                    (.reg [
                      ⟨(some 60), (.fieldAddr 0 (.tmp 10)), none, []⟩,
                      ⟨(some 61), (.load false 1 (.tmp 60)), none, []⟩,
                      ⟨(some 62), (.move (.tmp 13)), none, []⟩,
                      ⟨(some 63), (.buildSlice 1 1 [(.sc (.int .i64 0))] [(0, (.tmp 62))]), none, []⟩,
                      ⟨(some 64), (.append 1 8 [(.sc (.int .i64 0))] (.tmp 61) (.tmp 63)), none, []⟩,
                      ⟨(some 65), (.fieldAddr 0 (.tmp 10)), none, []⟩,
                      ⟨none, (.store 1 (.tmp 65) (.tmp 64)), none, []⟩] false [1, 4, 8, 9, 10, 11, 12, 13])
                    (.seq
                     (.reg op21_66 true [1, 4, 8, 9, 10, 11, 12, 13])
                     (.seq
                      (.reg [
                        ⟨(some 75), (.fieldAddr 1 (.tmp 10)), none, []⟩,
                        ⟨(some 76), (.load false 1 (.tmp 75)), none, []⟩,
                        ⟨(some 77), (.move (.tmp 13)), none, []⟩,
                        ⟨(some 78), (.indexAddrS 1 (.tmp 76) (.tmp 77)), none, []⟩,
                        ⟨(some 79), (.load false 1 (.tmp 78)), none, []⟩,
                        ⟨(some 80), (.lenS (.tmp 79)), none, []⟩,
                        ⟨(some 81), (.move (.const (.int .i64 0))), none, []⟩] false [1, 4, 8, 9, 10, 11, 12, 79, 80, 81])
                      (.block 2
                        (.loop
                          (.seq
                           (.reg [
                             ⟨(some 82), (.bin .lss (.tmp 81) (.tmp 80)), none, []⟩] false [1, 4, 8, 9, 10, 11, 12, 79, 80, 81, 82])
                           (.seq
                            (.cond (.tmp 82)
                              .skip
                              (.exit 2))
                            (.seq
                             (.block 3
                               (.seq
                                (.reg [
                                  ⟨(some 83), (.indexAddrS 1 (.tmp 79) (.tmp 81)), none, []⟩,
                                  ⟨(some 84), (.load false 1 (.tmp 83)), none, []⟩,
                                  ⟨(some 15), (.move (.tmp 84)), none, []⟩] false [1, 4, 8, 9, 10, 11, 12, 15, 79, 80, 81])
                                (.seq
                                 (.reg [
                                   ⟨(some 86), (.load true 2 (.tmp 4)), none, []⟩,
                                   ⟨(some 87), (.move (.tmp 15)), none, []⟩,
                                   ⟨(some 88), (.callF 22 [(.tmp 86), (.tmp 87)]), none, []⟩,
                                   ⟨(some 85), (.move (.tmp 88)), none, []⟩,
                                   ⟨(some 89), (.extract (.tmp 85) 0), none, []⟩,
                                   ⟨(some 90), (.extract (.tmp 85) 1), none, []⟩,
                                   ⟨(some 91), (.extract (.tmp 85) 2), none, []⟩,
                                   ⟨(some 16), (.move (.tmp 89)), none, []⟩,
                                   ⟨(some 17), (.move (.tmp 90)), none, []⟩,
                                   ⟨(some 18), (.move (.tmp 91)), none, []⟩] false [1, 4, 8, 9, 10, 11, 12, 17, 79, 80, 81])
                                 (.seq
                                  (.reg [
                                    ⟨(some 92), (.move (.tmp 11)), none, []⟩,
                                    ⟨(some 93), (.move (.tmp 17)), none, []⟩,
                                    ⟨(some 94), (.indexAddrS 1 (.tmp 92) (.tmp 93)), none, []⟩,
                                    ⟨(some 95), (.load false 1 (.tmp 94)), none, []⟩,
                                    ⟨(some 96), (.un .not (.tmp 95)), none, []⟩] false [1, 4, 8, 9, 10, 11, 12, 17, 79, 80, 81, 96])
                                  (.cond (.tmp 96)
                                    (.seq
                                     (.reg [
                                       ⟨(some 97), (.move (.tmp 11)), none, []⟩,
                                       ⟨(some 98), (.move (.tmp 17)), none, []⟩,
                                       ⟨(some 99), (.indexAddrS 1 (.tmp 97) (.tmp 98)), none, []⟩,
                                       ⟨none, (.store 1 (.tmp 99) (.const (.bool true))), none, []⟩] false [1, 4, 8, 9, 10, 11, 12, 17, 79, 80, 81])
                                     (.reg [
                                       ⟨(some 100), (.move (.tmp 12)), none, []⟩,
                                       ⟨(some 101), (.move (.tmp 17)), none, []⟩,
                                       ⟨(some 102), (.buildSlice 1 1 [(.sc (.int .i64 0))] [(0, (.tmp 101))]), none, []⟩,
                                       ⟨(some 103), (.append 1 8 [(.sc (.int .i64 0))] (.tmp 100) (.tmp 102)), none, []⟩,
                                       ⟨(some 12), (.move (.tmp 103)), none, []⟩] false [1, 4, 8, 9, 10, 11, 12, 79, 80, 81]))
                                    .skip)))))
                             (.reg [
                               ⟨(some 104), (.bin .add (.tmp 81) (.const (.int .i64 1))), none, []⟩,
                               ⟨(some 81), (.move (.tmp 104)), none, []⟩] false [1, 4, 8, 9, 10, 11, 12, 79, 80, 81])))))))))))
                (.reg [
                  ⟨(some 55), (.move (.tmp 12)), none, []⟩,
                  ⟨(some 56), (.slice 1 (.tmp 55) (some (.const (.int .i64 1))) none none), none, []⟩,
                  ⟨(some 12), (.move (.tmp 56)), none, []⟩] false [1, 4, 8, 9, 10, 11, 12]))))))
         (.seq
          (.reg [
            ⟨(some 105), (.fieldAddr 0 (.tmp 10)), none, []⟩,
            ⟨(some 106), (.load false 1 (.tmp 105)), none, []⟩,
            ⟨(some 107), (.makeFunc 29 [(.tmp 9)]), none, []⟩,
            ⟨(some 108), (.callF 28 [(.tmp 106), (.tmp 107)]), none, []⟩] false [8, 10])
          (.seq
           (.reg [
             ⟨(some 109), (.load true 3 (.tmp 10)), none, []⟩,
             ⟨none, (.store 3 (.tmp 8) (.tmp 109)), none, []⟩] false [8])
           .ret)))))))))
-- simp set: ac21, op21_66
theorem isF21 : IsFunc Try.prog 21 4 ac21 [.cell 8 true 3] := isFunc_of _ [(0, [1, 2, 3, 4, 8]), (1, [1, 2, 4, 8, 9]), (2, [1, 2, 4, 8, 9, 38]), (3, [8]), (4, [1, 2, 4, 8, 9, 10]), (5, [1, 2, 4, 8, 9, 10, 11]), (6, [1, 2, 4, 8, 9, 10, 11]), (7, [1, 4, 8, 9, 10, 11, 12]), (8, [1, 4, 8, 9, 10, 11, 12, 54]), (10, [1, 4, 8, 9, 10, 11, 12, 13]), (11, [1, 4, 8, 9, 10, 11, 12, 13]), (12, [1, 4, 8, 9, 10, 11, 12, 13]), (13, [1, 4, 8, 9, 10, 11, 12, 79, 80, 81]), (14, [1, 4, 8, 9, 10, 11, 12, 79, 80, 81, 82]), (15, [1, 4, 8, 9, 10, 11, 12, 15, 79, 80, 81]), (16, [1, 4, 8, 9, 10, 11, 12, 17, 79, 80, 81]), (17, [1, 4, 8, 9, 10, 11, 12, 17, 79, 80, 81, 96]), (18, [1, 4, 8, 9, 10, 11, 12, 17, 79, 80, 81]), (19, [1, 4, 8, 9, 10, 11, 12, 79, 80, 81]), (20, [1, 4, 8, 9, 10, 11, 12, 79, 80, 81]), (9, [1, 4, 8, 9, 10, 11, 12]), (21, [8, 10]), (22, [8])] Try.func21 (by kernel_rfl)
/-- waymark/graph.Ends; loop heads: [] -/
def op22_27 : List AOper := [
    ⟨(some 27), (.fieldAddr 1 (.tmp 7)), none, []⟩,
    ⟨(some 28), (.load false 1 (.tmp 27)), none, [0]⟩,
    ⟨(some 29), (.fieldAddr 0 (.tmp 7)), none, []⟩,
    ⟨(some 30), (.load false 1 (.tmp 29)), none, [2]⟩,
    ⟨(some 4), (.move (.tmp 28)), none, [1, 0, 1]⟩,
    ⟨(some 5), (.move (.tmp 30)), none, [3, 4, 0, 1, 2, 3, 4]⟩,
    ⟨(some 6), (.move (.const (.bool true))), none, [5, 0, 1, 2, 3, 4, 5]⟩]
@[go_sem ↓] theorem op22_27_run {K : AExit → Fr → Store → Prop} {fr : Fr} {σ : Store} : wp Try.prog (.reg op22_27 true [4, 5, 6]) K fr σ = wpOpsD Try.prog (Kreg [4, 5, 6] K) op22_27 (Fr.get fr) σ := wp_draw (by kernel_rfl)
def op22_31 : List AOper := [
    ⟨(some 31), (.fieldAddr 0 (.tmp 7)), none, []⟩,
    ⟨(some 32), (.load false 1 (.tmp 31)), none, [0]⟩,
    ⟨(some 33), (.fieldAddr 1 (.tmp 7)), none, []⟩,
    ⟨(some 34), (.load false 1 (.tmp 33)), none, [2]⟩,
    ⟨(some 4), (.move (.tmp 32)), none, [1, 0, 1]⟩,
    ⟨(some 5), (.move (.tmp 34)), none, [3, 4, 0, 1, 2, 3, 4]⟩,
    ⟨(some 6), (.move (.const (.bool true))), none, [5, 0, 1, 2, 3, 4, 5]⟩]
@[go_sem ↓] theorem op22_31_run {K : AExit → Fr → Store → Prop} {fr : Fr} {σ : Store} : wp Try.prog (.reg op22_31 true [4, 5, 6]) K fr σ = wpOpsD Try.prog (Kreg [4, 5, 6] K) op22_31 (Fr.get fr) σ := wp_draw (by kernel_rfl)
def ac22 : ACode :=
  (.seq
   (.reg [
     ⟨(some 2), (.box (.tmp 0)), none, []⟩,
     ⟨(some 4), (.move (.const (.int .i64 0))), none, []⟩,
     ⟨(some 5), (.move (.const (.int .i64 0))), none, []⟩,
     ⟨(some 6), (.move (.const (.bool false))), none, []⟩] false [1, 2])
   (.seq
    (.seq
     (.reg [
       ⟨(some 8), (.move (.tmp 1)), none, []⟩,
       ⟨(some 9), (.bin .lss (.tmp 8) (.const (.int .i64 0))), none, []⟩,
       ⟨(some 10), (.move (.tmp 9)), none, []⟩,
       ⟨(some 11), (.move (.tmp 1)), (some (10, false)), []⟩,
       ⟨(some 12), (.bin .quo (.tmp 11) (.const (.int .i64 2))), (some (10, false)), []⟩,
       ⟨(some 13), (.fieldAddr 1 (.tmp 2)), (some (10, false)), []⟩,
       ⟨(some 14), (.load false 1 (.tmp 13)), (some (10, false)), []⟩,
       ⟨(some 15), (.lenS (.tmp 14)), (some (10, false)), []⟩,
       ⟨(some 16), (.bin .geq (.tmp 12) (.tmp 15)), (some (10, false)), []⟩,
       ⟨(some 17), (.pick (.tmp 10) (.const (.bool true)) (.tmp 16)), none, []⟩] false [1, 2, 17])
     (.cond (.tmp 17)
       (.seq
        (.reg [
          ⟨(some 4), (.move (.const (.int .i64 0))), none, []⟩,
          ⟨(some 5), (.move (.const (.int .i64 0))), none, []⟩,
          ⟨(some 6), (.move (.const (.bool false))), none, []⟩] false [4, 5, 6])
        .ret)
       .skip))
    (.seq
     (.reg [
       ⟨(some 18), (.fieldAddr 1 (.tmp 2)), none, []⟩,
       ⟨(some 19), (.load false 1 (.tmp 18)), none, []⟩,
       ⟨(some 20), (.move (.tmp 1)), none, []⟩,
       ⟨(some 21), (.bin .quo (.tmp 20) (.const (.int .i64 2))), none, []⟩,
       ⟨(some 22), (.indexAddrS 4 (.tmp 19) (.tmp 21)), none, []⟩,
       ⟨(some 23), (.load true 4 (.tmp 22)), none, []⟩,
       ⟨(some 7), (.alloc [(.sc (.int .i64 0)), (.sc (.int .i64 0)), (.sc (.int .i64 0)), (.sc (.int .i64 0))]), none, []⟩,
       ⟨none, (.store 4 (.tmp 7) (.tmp 23)), none, []⟩] false [1, 7])
     (.seq
      (.seq
       (.reg [
         ⟨(some 24), (.move (.tmp 1)), none, []⟩,
         ⟨(some 25), (.bin .rem (.tmp 24) (.const (.int .i64 2))), none, []⟩,
         ⟨(some 26), (.bin .eql (.tmp 25) (.const (.int .i64 1))), none, []⟩] false [7, 26])
       (.cond (.tmp 26)
         (.seq
          (.reg op22_27 true [4, 5, 6])
          .ret)
         .skip))
      (.seq
       (.reg op22_31 true [4, 5, 6])
       .ret)))))
-- simp set: ac22, op22_27, op22_31
theorem isF22 : IsFunc Try.prog 22 2 ac22 [.tmp 4, .tmp 5, .tmp 6] := isFunc_of _ [(0, [1, 2]), (1, [1, 2, 17]), (2, [4, 5, 6]), (3, [1, 7]), (4, [7, 26]), (5, [4, 5, 6]), (6, [4, 5, 6])] Try.func22 (by kernel_rfl)
/-- waymark/waymarkref1.Next; loop heads: [[1, 2, 3, 4, 11, 12, 13]] -/
def op24_54 : List AOper := [
    ⟨(some 54), (.load true 2 (.tmp 4)), none, []⟩,
    ⟨(some 55), (.move (.tmp 12)), none, []⟩,
    ⟨(some 56), (.move (.tmp 13)), none, []⟩,
    ⟨(some 57), (.indexAddrS 1 (.tmp 55) (.tmp 56)), none, [1, 2]⟩,
    ⟨(some 58), (.load false 1 (.tmp 57)), none, [3]⟩,
    ⟨(some 59), (.callF 17 [(.tmp 54), (.tmp 58)]), none, [0, 4]⟩,
    ⟨(some 53), (.move (.tmp 59)), none, [5]⟩,
    ⟨(some 60), (.extract (.tmp 53) 0), none, [6]⟩,
    ⟨(some 61), (.extract (.tmp 53) 1), none, [6]⟩,
    ⟨(some 62), (.extract (.tmp 53) 2), none, [6]⟩,
    ⟨(some 14), (.move (.tmp 60)), none, [7, 5, 0, 1, 2, 3, 4, 5, 6, 7]⟩,
    ⟨(some 15), (.move (.tmp 61)), none, [8, 10, 0, 1, 2, 3, 4, 5, 6, 7, 8, 10]⟩,
    ⟨(some 16), (.move (.tmp 62)), none, [9, 11, 0, 1, 2, 3, 4, 5, 6, 7, 8, 9, 10, 11]⟩]
@[go_sem ↓] theorem op24_54_run {K : AExit → Fr → Store → Prop} {fr : Fr} {σ : Store} : wp Try.prog (.reg op24_54 true [1, 2, 3, 4, 11, 12, 13, 15]) K fr σ = wpOpsD Try.prog (Kreg [1, 2, 3, 4, 11, 12, 13, 15] K) op24_54 (Fr.get fr) σ := wp_draw (by kernel_rfl)
def op24_63 : List AOper := [
    ⟨(some 63), (.move (.tmp 1)), none, []⟩,
    ⟨(some 64), (.move (.tmp 12)), none, []⟩,
    ⟨(some 65), (.move (.tmp 13)), none, []⟩,
    ⟨(some 66), (.indexAddrS 1 (.tmp 64) (.tmp 65)), none, [1, 2]⟩,
    ⟨(some 67), (.load false 1 (.tmp 66)), none, [3]⟩,
    ⟨(some 68), (.bin .quo (.tmp 67) (.const (.int .i64 2))), none, [4]⟩,
    ⟨(some 69), (.callF 18 [(.tmp 63), (.tmp 68)]), none, [0, 5]⟩,
    ⟨(some 70), (.un .not (.tmp 69)), none, [6]⟩,
    ⟨(some 71), (.move (.tmp 70)), none, [7, 6]⟩,
    ⟨(some 72), (.move (.tmp 2)), (some (71, true)), [8]⟩,
    ⟨(some 73), (.move (.tmp 15)), (some (71, true)), [8]⟩,
    ⟨(some 74), (.indexAddrS 1 (.tmp 72) (.tmp 73)), (some (71, true)), [9, 10, 8]⟩,
    ⟨(some 75), (.load false 1 (.tmp 74)), (some (71, true)), [11, 8]⟩,
    ⟨(some 76), (.bin .geq (.tmp 75) (.const (.int .i64 0))), (some (71, true)), [12, 8]⟩,
    ⟨(some 77), (.pick (.tmp 71) (.tmp 76) (.const (.bool false))), none, [8, 13]⟩,
    ⟨(some 78), (.move (.tmp 77)), none, [14, 8]⟩,
    ⟨(some 79), (.move (.tmp 2)), (some (78, true)), [15]⟩,
    ⟨(some 80), (.move (.tmp 3)), (some (78, true)), [15]⟩,
    ⟨(some 81), (.indexAddrS 1 (.tmp 79) (.tmp 80)), (some (78, true)), [16, 17, 15]⟩,
    ⟨(some 82), (.load false 1 (.tmp 81)), (some (78, true)), [18, 15]⟩,
    ⟨(some 83), (.move (.tmp 2)), (some (78, true)), [15]⟩,
    ⟨(some 84), (.move (.tmp 15)), (some (78, true)), [15]⟩,
    ⟨(some 85), (.indexAddrS 1 (.tmp 83) (.tmp 84)), (some (78, true)), [20, 21, 15]⟩,
    ⟨(some 86), (.load false 1 (.tmp 85)), (some (78, true)), [22, 15]⟩,
    ⟨(some 87), (.bin .sub (.tmp 82) (.tmp 86)), (some (78, true)), [19, 23, 15]⟩,
    ⟨(some 88), (.fieldAddr 1 (.tmp 4)), (some (78, true)), [15]⟩,
    ⟨(some 89), (.load false 1 (.tmp 88)), (some (78, true)), [25, 15]⟩,
    ⟨(some 90), (.move (.tmp 12)), (some (78, true)), [15]⟩,
    ⟨(some 91), (.move (.tmp 13)), (some (78, true)), [15]⟩,
    ⟨(some 92), (.indexAddrS 1 (.tmp 90) (.tmp 91)), (some (78, true)), [27, 28, 15]⟩,
    ⟨(some 93), (.load false 1 (.tmp 92)), (some (78, true)), [29, 15]⟩,
    ⟨(some 94), (.bin .quo (.tmp 93) (.const (.int .i64 2))), (some (78, true)), [30, 15]⟩,
    ⟨(some 95), (.indexAddrS 4 (.tmp 89) (.tmp 94)), (some (78, true)), [26, 31, 15]⟩,
    ⟨(some 96), (.fieldAddr 2 (.tmp 95)), (some (78, true)), [32, 15]⟩,
    ⟨(some 97), (.load false 1 (.tmp 96)), (some (78, true)), [33, 15]⟩,
    ⟨(some 98), (.bin .eql (.tmp 87) (.tmp 97)), (some (78, true)), [24, 34, 15]⟩,
    ⟨(some 99), (.pick (.tmp 78) (.tmp 98) (.const (.bool false))), none, [15, 35]⟩]
@[go_sem ↓] theorem op24_63_run {K : AExit → Fr → Store → Prop} {fr : Fr} {σ : Store} : wp Try.prog (.reg op24_63 true [1, 2, 3, 4, 11, 12, 13, 99]) K fr σ = wpOpsD Try.prog (Kreg [1, 2, 3, 4, 11, 12, 13, 99] K) op24_63 (Fr.get fr) σ := wp_draw (by kernel_rfl)
def ac24 : ACode :=
  (.seq
   (.reg [
     ⟨(some 4), (.box (.tmp 0)), none, []⟩,
     ⟨(some 8), (.move (.const (.slice none 0 0))), none, []⟩] false [1, 2, 3, 4])
   (.seq
    (.reg [
      ⟨(some 18), (.load true 2 (.tmp 4)), none, []⟩,
      ⟨(some 19), (.callF 15 [(.tmp 18)]), none, []⟩,
      ⟨(some 17), (.move (.tmp 19)), none, []⟩,
      ⟨(some 20), (.extract (.tmp 17) 0), none, []⟩,
      ⟨(some 21), (.extract (.tmp 17) 1), none, []⟩,
      ⟨(some 9), (.move (.tmp 20)), none, []⟩,
      ⟨(some 10), (.move (.tmp 21)), none, []⟩] false [1, 2, 3, 4, 10])
    (.seq
     (.seq
      (.reg [
        ⟨(some 22), (.move (.tmp 10)), none, []⟩,
        ⟨(some 23), (.bin .neq (.tmp 22) (.const (.int .i64 0))), none, []⟩,
        ⟨(some 24), (.move (.tmp 23)), none, []⟩,
        ⟨(some 25), (.move (.tmp 2)), (some (24, false)), []⟩,
        ⟨(some 26), (.lenS (.tmp 25)), (some (24, false)), []⟩,
        ⟨(some 27), (.fieldAddr 0 (.tmp 4)), (some (24, false)), []⟩,
        ⟨(some 28), (.load false 1 (.tmp 27)), (some (24, false)), []⟩,
        ⟨(some 29), (.bin .neq (.tmp 26) (.tmp 28)), (some (24, false)), []⟩,
        ⟨(some 30), (.pick (.tmp 24) (.const (.bool true)) (.tmp 29)), none, []⟩,
        ⟨(some 31), (.move (.tmp 30)), none, []⟩,
        ⟨(some 32), (.load true 2 (.tmp 4)), (some (31, false)), []⟩,
        ⟨(some 33), (.move (.tmp 3)), (some (31, false)), []⟩,
        ⟨(some 34), (.callF 19 [(.tmp 32), (.tmp 33)]), (some (31, false)), []⟩,
        ⟨(some 35), (.un .not (.tmp 34)), (some (31, false)), []⟩,
        ⟨(some 36), (.pick (.tmp 31) (.const (.bool true)) (.tmp 35)), none, []⟩,
        ⟨(some 37), (.move (.tmp 36)), none, []⟩,
        ⟨(some 38), (.move (.tmp 2)), (some (37, false)), []⟩,
        ⟨(some 39), (.move (.tmp 3)), (some (37, false)), []⟩,
        ⟨(some 40), (.indexAddrS 1 (.tmp 38) (.tmp 39)), (some (37, false)), []⟩,
        ⟨(some 41), (.load false 1 (.tmp 40)), (some (37, false)), []⟩,
        ⟨(some 42), (.bin .leq (.tmp 41) (.const (.int .i64 0))), (some (37, false)), []⟩,
        ⟨(some 43), (.pick (.tmp 37) (.const (.bool true)) (.tmp 42)), none, []⟩] false [1, 2, 3, 4, 43])
      (.cond (.tmp 43)
        (.seq
         (.reg [
           ⟨(some 8), (.move (.const (.slice none 0 0))), none, []⟩] false [8])
         .ret)
        .skip))
     (.seq
      (.reg [
        ⟨(some 11), (.move (.const (.slice none 0 0))), none, []⟩] false [1, 2, 3, 4, 11])
      (.seq
       (.reg [
         ⟨(some 44), (.load true 2 (.tmp 4)), none, []⟩,
         ⟨(some 45), (.move (.tmp 3)), none, []⟩,
         ⟨(some 46), (.callF 33 [(.tmp 44), (.tmp 45)]), none, []⟩,
         ⟨(some 12), (.move (.tmp 46)), none, []⟩] false [1, 2, 3, 4, 11, 12])
       (.seq
        (.seq
         (.reg [
           ⟨(some 13), (.move (.const (.int .i64 0))), none, []⟩] false [1, 2, 3, 4, 11, 12, 13])
         (.block 0
           (.loop
             (.seq
              (.seq
               (.reg [
                 ⟨(some 47), (.move (.tmp 13)), none, []⟩,
                 ⟨(some 48), (.move (.tmp 12)), none, []⟩,
                 ⟨(some 49), (.lenS (.tmp 48)), none, []⟩,
                 ⟨(some 50), (.bin .lss (.tmp 47) (.tmp 49)), none, []⟩] false [1, 2, 3, 4, 11, 12, 13, 50])
               (.cond (.tmp 50)
                 .skip
                 (.exit 0)))
              (.seq
               (.block 1
                 (.seq
                  (.reg op24_54 true [1, 2, 3, 4, 11, 12, 13, 15])
                  (.seq
                   (.reg op24_63 true [1, 2, 3, 4, 11, 12, 13, 99])
                   (.cond (.tmp 99)
                     (.reg [
                       ⟨(some 100), (.move (.tmp 11)), none, []⟩,
                       ⟨(some 101), (.move (.tmp 12)), none, []⟩,
                       ⟨(some 102), (.move (.tmp 13)), none, []⟩,
                       ⟨(some 103), (.indexAddrS 1 (.tmp 101) (.tmp 102)), none, []⟩,
                       ⟨(some 104), (.load false 1 (.tmp 103)), none, []⟩,
                       ⟨(some 105), (.buildSlice 1 1 [(.sc (.int .i64 0))] [(0, (.tmp 104))]), none, []⟩,
                       ⟨(some 106), (.append 1 8 [(.sc (.int .i64 0))] (.tmp 100) (.tmp 105)), none, []⟩,
                       ⟨(some 11), (.move (.tmp 106)), none, []⟩] false [1, 2, 3, 4, 11, 12, 13])
                     .skip))))
               (.reg [
                 ⟨(some 51), (.move (.tmp 13)), none, []⟩,
                 ⟨(some 52), (.bin .add (.tmp 51) (.const (.int .i64 1))), none, []⟩,
                 ⟨(some 13), (.move (.tmp 52)), none, []⟩] false [1, 2, 3, 4, 11, 12, 13]))))))
        (.seq
         (.reg [
           ⟨(some 107), (.move (.tmp 11)), none, []⟩,
           ⟨(some 8), (.move (.tmp 107)), none, []⟩] false [8])
         .ret)))))))
-- simp set: ac24, op24_54, op24_63
theorem isF24 : IsFunc Try.prog 24 4 ac24 [.tmp 8] := isFunc_of _ [(0, [1, 2, 3, 4]), (1, [1, 2, 3, 4, 10]), (2, [1, 2, 3, 4, 43]), (3, [8]), (4, [1, 2, 3, 4, 11]), (5, [1, 2, 3, 4, 11, 12]), (6, [1, 2, 3, 4, 11, 12, 13]), (7, [1, 2, 3, 4, 11, 12, 13, 50]), (9, [1, 2, 3, 4, 11, 12, 13, 15]), (10, [1, 2, 3, 4, 11, 12, 13, 99]), (11, [1, 2, 3, 4, 11, 12, 13]), (8, [1, 2, 3, 4, 11, 12, 13]), (12, [8])] Try.func24 (by kernel_rfl)
/-- waymark/spf.To; loop heads: [] -/
def ac25 : ACode :=
  (.seq
   (.reg [
     ⟨(some 3), (.box (.tmp 0)), none, []⟩,
     ⟨(some 6), (.move (.const (.slice none 0 0))), none, []⟩] false [1, 2, 3])
   (.seq
    (.reg [
      ⟨(some 7), (.load true 2 (.tmp 3)), none, []⟩,
      ⟨(some 8), (.move (.tmp 1)), none, []⟩,
      ⟨(some 9), (.move (.tmp 2)), none, []⟩,
      ⟨(some 10), (.callF 34 [(.tmp 7), (.tmp 8), (.tmp 9)]), none, []⟩,
      ⟨(some 6), (.move (.tmp 10)), none, []⟩] false [6])
    .ret))
-- simp set: ac25
theorem isF25 : IsFunc Try.prog 25 3 ac25 [.tmp 6] := isFunc_of _ [(0, [1, 2, 3]), (1, [6])] Try.func25 (by kernel_rfl)
/-- waymark/graph.Is; loop heads: [] -/
def ac26 : ACode :=
  (.seq
   (.reg [
     ⟨(some 2), (.box (.tmp 0)), none, []⟩,
     ⟨(some 4), (.move (.const (.bool false))), none, []⟩] false [1, 2])
   (.seq
    (.reg [
      ⟨(some 5), (.move (.tmp 1)), none, []⟩,
      ⟨(some 6), (.bin .geq (.tmp 5) (.const (.int .i64 0))), none, []⟩,
      ⟨(some 7), (.move (.tmp 6)), none, []⟩,
      ⟨(some 8), (.move (.tmp 1)), (some (7, true)), []⟩,
      ⟨(some 9), (.fieldAddr 0 (.tmp 2)), (some (7, true)), []⟩,
      ⟨(some 10), (.load false 1 (.tmp 9)), (some (7, true)), []⟩,
      ⟨(some 11), (.bin .lss (.tmp 8) (.tmp 10)), (some (7, true)), []⟩,
      ⟨(some 12), (.pick (.tmp 7) (.tmp 11) (.const (.bool false))), none, []⟩,
      ⟨(some 4), (.move (.tmp 12)), none, []⟩] false [4])
    .ret))
-- simp set: ac26
theorem isF26 : IsFunc Try.prog 26 2 ac26 [.tmp 4] := isFunc_of _ [(0, [1, 2]), (1, [4])] Try.func26 (by kernel_rfl)
/-- waymark/spf.Next; loop heads: [[1, 2, 3, 4, 9, 40, 41, 42]] -/
def op27_53 : List AOper := [
    ⟨(some 53), (.move (.tmp 1)), none, []⟩,
    ⟨(some 54), (.move (.tmp 11)), none, []⟩,
    ⟨(some 55), (.callF 37 [(.tmp 53), (.tmp 54)]), none, [0, 1]⟩,
    ⟨(some 56), (.move (.tmp 55)), none, [2, 2]⟩,
    ⟨(some 57), (.move (.tmp 2)), (some (56, true)), [3]⟩,
    ⟨(some 58), (.move (.tmp 13)), (some (56, true)), [3]⟩,
    ⟨(some 59), (.indexAddrS 1 (.tmp 57) (.tmp 58)), (some (56, true)), [4, 5, 3]⟩,
    ⟨(some 60), (.load false 1 (.tmp 59)), (some (56, true)), [6, 3]⟩,
    ⟨(some 61), (.bin .geq (.tmp 60) (.const (.int .i64 0))), (some (56, true)), [7, 3]⟩,
    ⟨(some 62), (.pick (.tmp 56) (.tmp 61) (.const (.bool false))), none, [3, 8]⟩,
    ⟨(some 63), (.move (.tmp 62)), none, [9, 3]⟩,
    ⟨(some 64), (.move (.tmp 2)), (some (63, true)), [10]⟩,
    ⟨(some 65), (.move (.tmp 3)), (some (63, true)), [10]⟩,
    ⟨(some 66), (.indexAddrS 1 (.tmp 64) (.tmp 65)), (some (63, true)), [11, 12, 10]⟩,
    ⟨(some 67), (.load false 1 (.tmp 66)), (some (63, true)), [13, 10]⟩,
    ⟨(some 68), (.fieldAddr 1 (.tmp 4)), (some (63, true)), [10]⟩,
    ⟨(some 69), (.load false 1 (.tmp 68)), (some (63, true)), [15, 10]⟩,
    ⟨(some 70), (.move (.tmp 11)), (some (63, true)), [10]⟩,
    ⟨(some 71), (.bin .quo (.tmp 70) (.const (.int .i64 2))), (some (63, true)), [17, 10]⟩,
    ⟨(some 72), (.indexAddrS 4 (.tmp 69) (.tmp 71)), (some (63, true)), [16, 18, 10]⟩,
    ⟨(some 73), (.fieldAddr 2 (.tmp 72)), (some (63, true)), [19, 10]⟩,
    ⟨(some 74), (.load false 1 (.tmp 73)), (some (63, true)), [20, 10]⟩,
    ⟨(some 75), (.bin .sub (.tmp 67) (.tmp 74)), (some (63, true)), [14, 21, 10]⟩,
    ⟨(some 76), (.move (.tmp 2)), (some (63, true)), [10]⟩,
    ⟨(some 77), (.move (.tmp 13)), (some (63, true)), [10]⟩,
    ⟨(some 78), (.indexAddrS 1 (.tmp 76) (.tmp 77)), (some (63, true)), [23, 24, 10]⟩,
    ⟨(some 79), (.load false 1 (.tmp 78)), (some (63, true)), [25, 10]⟩,
    ⟨(some 80), (.bin .eql (.tmp 75) (.tmp 79)), (some (63, true)), [22, 26, 10]⟩,
    ⟨(some 81), (.pick (.tmp 63) (.tmp 80) (.const (.bool false))), none, [10, 27]⟩]
@[go_sem ↓] theorem op27_53_run {K : AExit → Fr → Store → Prop} {fr : Fr} {σ : Store} : wp Try.prog (.reg op27_53 true [1, 2, 3, 4, 9, 11, 40, 41, 42, 81]) K fr σ = wpOpsD Try.prog (Kreg [1, 2, 3, 4, 9, 11, 40, 41, 42, 81] K) op27_53 (Fr.get fr) σ := wp_draw (by kernel_rfl)
def ac27 : ACode :=
  (.seq
   (.reg [
     ⟨(some 4), (.box (.tmp 0)), none, []⟩,
     ⟨(some 8), (.move (.const (.slice none 0 0))), none, []⟩] false [1, 2, 3, 4])
   (.seq
    (.seq
     (.reg [
       ⟨(some 15), (.load true 2 (.tmp 4)), none, []⟩,
       ⟨(some 16), (.callF 35 [(.tmp 15)]), none, []⟩,
       ⟨(some 17), (.un .not (.tmp 16)), none, []⟩,
       ⟨(some 18), (.move (.tmp 17)), none, []⟩,
       ⟨(some 19), (.move (.tmp 2)), (some (18, false)), []⟩,
       ⟨(some 20), (.lenS (.tmp 19)), (some (18, false)), []⟩,
       ⟨(some 21), (.fieldAddr 0 (.tmp 4)), (some (18, false)), []⟩,
       ⟨(some 22), (.load false 1 (.tmp 21)), (some (18, false)), []⟩,
       ⟨(some 23), (.bin .neq (.tmp 20) (.tmp 22)), (some (18, false)), []⟩,
       ⟨(some 24), (.pick (.tmp 18) (.const (.bool true)) (.tmp 23)), none, []⟩,
       ⟨(some 25), (.move (.tmp 24)), none, []⟩,
       ⟨(some 26), (.load true 2 (.tmp 4)), (some (25, false)), []⟩,
       ⟨(some 27), (.move (.tmp 3)), (some (25, false)), []⟩,
       ⟨(some 28), (.callF 26 [(.tmp 26), (.tmp 27)]), (some (25, false)), []⟩,
       ⟨(some 29), (.un .not (.tmp 28)), (some (25, false)), []⟩,
       ⟨(some 30), (.pick (.tmp 25) (.const (.bool true)) (.tmp 29)), none, []⟩,
       ⟨(some 31), (.move (.tmp 30)), none, []⟩,
       ⟨(some 32), (.move (.tmp 2)), (some (31, false)), []⟩,
       ⟨(some 33), (.move (.tmp 3)), (some (31, false)), []⟩,
       ⟨(some 34), (.indexAddrS 1 (.tmp 32) (.tmp 33)), (some (31, false)), []⟩,
       ⟨(some 35), (.load false 1 (.tmp 34)), (some (31, false)), []⟩,
       ⟨(some 36), (.bin .leq (.tmp 35) (.const (.int .i64 0))), (some (31, false)), []⟩,
       ⟨(some 37), (.pick (.tmp 31) (.const (.bool true)) (.tmp 36)), none, []⟩] false [1, 2, 3, 4, 37])
     (.cond (.tmp 37)
       (.seq
        (.reg [
          ⟨(some 8), (.move (.const (.slice none 0 0))), none, []⟩] false [8])
        .ret)
       .skip))
    (.seq
     (.reg [
       ⟨(some 9), (.move (.const (.slice none 0 0))), none, []⟩] false [1, 2, 3, 4, 9])
     (.seq
      (.seq
       (.reg [
         ⟨(some 38), (.load true 2 (.tmp 4)), none, []⟩,
         ⟨(some 39), (.move (.tmp 3)), none, []⟩,
         ⟨(some 40), (.callF 36 [(.tmp 38), (.tmp 39)]), none, []⟩,
         ⟨(some 41), (.lenS (.tmp 40)), none, []⟩,
         ⟨(some 42), (.move (.const (.int .i64 0))), none, []⟩] false [1, 2, 3, 4, 9, 40, 41, 42])
       (.block 0
         (.loop
           (.seq
            (.reg [
              ⟨(some 43), (.bin .lss (.tmp 42) (.tmp 41)), none, []⟩] false [1, 2, 3, 4, 9, 40, 41, 42, 43])
            (.seq
             (.cond (.tmp 43)
               .skip
               (.exit 0))
             (.seq
              (.block 1
                (.seq
                 (.reg [
                   ⟨(some 44), (.indexAddrS 1 (.tmp 40) (.tmp 42)), none, []⟩,
                   ⟨(some 45), (.load false 1 (.tmp 44)), none, []⟩,
                   ⟨(some 11), (.move (.tmp 45)), none, []⟩] false [1, 2, 3, 4, 9, 11, 40, 41, 42])
                 (.seq
                  (.reg [
                    ⟨(some 47), (.load true 2 (.tmp 4)), none, []⟩,
                    ⟨(some 48), (.move (.tmp 11)), none, []⟩,
                    ⟨(some 49), (.callF 22 [(.tmp 47), (.tmp 48)]), none, []⟩,
                    ⟨(some 46), (.move (.tmp 49)), none, []⟩,
                    ⟨(some 50), (.extract (.tmp 46) 0), none, []⟩,
                    ⟨(some 51), (.extract (.tmp 46) 1), none, []⟩,
                    ⟨(some 52), (.extract (.tmp 46) 2), none, []⟩,
                    ⟨(some 12), (.move (.tmp 50)), none, []⟩,
                    ⟨(some 13), (.move (.tmp 51)), none, []⟩,
                    ⟨(some 14), (.move (.tmp 52)), none, []⟩] false [1, 2, 3, 4, 9, 11, 13, 40, 41, 42])
                  (.seq
                   (.reg op27_53 true [1, 2, 3, 4, 9, 11, 40, 41, 42, 81])
                   (.cond (.tmp 81)
                     (.reg [
                       ⟨(some 82), (.move (.tmp 9)), none, []⟩,
                       ⟨(some 83), (.move (.tmp 11)), none, []⟩,
                       ⟨(some 84), (.buildSlice 1 1 [(.sc (.int .i64 0))] [(0, (.tmp 83))]), none, []⟩,
                       ⟨(some 85), (.append 1 8 [(.sc (.int .i64 0))] (.tmp 82) (.tmp 84)), none, []⟩,
                       ⟨(some 9), (.move (.tmp 85)), none, []⟩] false [1, 2, 3, 4, 9, 40, 41, 42])
                     .skip)))))
              (.reg [
                ⟨(some 86), (.bin .add (.tmp 42) (.const (.int .i64 1))), none, []⟩,
                ⟨(some 42), (.move (.tmp 86)), none, []⟩] false [1, 2, 3, 4, 9, 40, 41, 42])))))))
      (.seq
       (.reg [
         ⟨(some 87), (.move (.tmp 9)), none, []⟩,
         ⟨(some 8), (.move (.tmp 87)), none, []⟩] false [8])
       .ret)))))
-- simp set: ac27, op27_53
theorem isF27 : IsFunc Try.prog 27 4 ac27 [.tmp 8] := isFunc_of _ [(0, [1, 2, 3, 4]), (1, [1, 2, 3, 4, 37]), (2, [8]), (3, [1, 2, 3, 4, 9]), (4, [1, 2, 3, 4, 9, 40, 41, 42]), (5, [1, 2, 3, 4, 9, 40, 41, 42, 43]), (6, [1, 2, 3, 4, 9, 11, 40, 41, 42]), (7, [1, 2, 3, 4, 9, 11, 13, 40, 41, 42]), (8, [1, 2, 3, 4, 9, 11, 40, 41, 42, 81]), (9, [1, 2, 3, 4, 9, 40, 41, 42]), (10, [1, 2, 3, 4, 9, 40, 41, 42]), (11, [8])] Try.func27 (by kernel_rfl)
/-- waymark/dag.find$1; loop heads: [] -/
def op29_6 : List AOper := [
    ⟨(some 6), (.load false 1 (.tmp 2)), none, []⟩,
    ⟨(some 7), (.move (.tmp 1)), none, []⟩,
    ⟨(some 8), (.indexAddrS 1 (.tmp 6) (.tmp 7)), none, [0, 1]⟩,
    ⟨(some 9), (.load false 1 (.tmp 8)), none, [2]⟩,
    ⟨(some 10), (.load false 1 (.tmp 2)), none, []⟩,
    ⟨(some 11), (.move (.tmp 0)), none, []⟩,
    ⟨(some 12), (.indexAddrS 1 (.tmp 10) (.tmp 11)), none, [4, 5]⟩,
    ⟨(some 13), (.load false 1 (.tmp 12)), none, [6]⟩,
    ⟨(some 14), (.callF 30 [(.tmp 9), (.tmp 13)]), none, [3, 7]⟩,
    ⟨(some 5), (.move (.tmp 14)), none, [8, 8, 0, 1, 2, 3, 4, 5, 6, 7, 8]⟩]
@[go_sem ↓] theorem op29_6_run {K : AExit → Fr → Store → Prop} {fr : Fr} {σ : Store} : wp Try.prog (.reg op29_6 true [5]) K fr σ = wpOpsD Try.prog (Kreg [5] K) op29_6 (Fr.get fr) σ := wp_draw (by kernel_rfl)
def ac29 : ACode :=
  (.seq
   (.reg [
     ⟨(some 5), (.move (.const (.int .i64 0))), none, []⟩] false [0, 1, 2])
   (.seq
    (.reg op29_6 true [5])
    .ret))
-- simp set: ac29, op29_6
theorem isF29 : IsFunc Try.prog 29 3 ac29 [.tmp 5] := isFunc_of _ [(0, [0, 1, 2]), (1, [5])] Try.func29 (by kernel_rfl)
/-- cmp.Compare[int]; loop heads: [] -/
def ac30 : ACode :=
  (.seq
   (.reg [
     ⟨(some 4), (.move (.const (.int .i64 0))), none, []⟩] false [0, 1])
   (.seq
    (.reg [
      ⟨(some 7), (.move (.tmp 0)), none, []⟩,
      ⟨(some 8), (.callF 39 [(.tmp 7)]), none, []⟩,
      ⟨(some 5), (.move (.tmp 8)), none, []⟩] false [0, 1, 5])
    (.seq
     (.reg [
       ⟨(some 9), (.move (.tmp 1)), none, []⟩,
       ⟨(some 10), (.callF 39 [(.tmp 9)]), none, []⟩,
       ⟨(some 6), (.move (.tmp 10)), none, []⟩] false [0, 1, 5, 6])
     (.seq
      (.seq
       (.reg [
         ⟨(some 11), (.move (.tmp 5)), none, []⟩] false [0, 1, 6, 11])
       (.cond (.tmp 11)
         (.seq
          (.seq
           (.reg [
             ⟨(some 12), (.move (.tmp 6)), none, []⟩] false [12])
           (.cond (.tmp 12)
             (.seq
              (.reg [
                ⟨(some 4), (.move (.const (.int .i64 0))), none, []⟩] false [4])
              .ret)
             .skip))
          (.seq
           (.reg [
             ⟨(some 4), (.move (.const (.int .i64 (-1)))), none, []⟩] false [4])
           .ret))
         .skip))
      (.seq
       (.seq
        (.reg [
          ⟨(some 13), (.move (.tmp 6)), none, []⟩] false [0, 1, 13])
        (.cond (.tmp 13)
          (.seq
           (.reg [
             ⟨(some 4), (.move (.const (.int .i64 1))), none, []⟩] false [4])
           .ret)
          .skip))
       (.seq
        (.seq
         (.reg [
           ⟨(some 14), (.move (.tmp 0)), none, []⟩,
           ⟨(some 15), (.move (.tmp 1)), none, []⟩,
           ⟨(some 16), (.bin .lss (.tmp 14) (.tmp 15)), none, []⟩] false [0, 1, 16])
         (.cond (.tmp 16)
           (.seq
            (.reg [
              ⟨(some 4), (.move (.const (.int .i64 (-1)))), none, []⟩] false [4])
            .ret)
           .skip))
        (.seq
         (.seq
          (.reg [
            ⟨(some 17), (.move (.tmp 0)), none, []⟩,
            ⟨(some 18), (.move (.tmp 1)), none, []⟩,
            ⟨(some 19), (.bin .gtr (.tmp 17) (.tmp 18)), none, []⟩] false [19])
          (.cond (.tmp 19)
            (.seq
             (.reg [
               ⟨(some 4), (.move (.const (.int .i64 1))), none, []⟩] false [4])
             .ret)
            .skip))
         (.seq
          (.reg [
            ⟨(some 4), (.move (.const (.int .i64 0))), none, []⟩] false [4])
          .ret))))))))
-- simp set: ac30
theorem isF30 : IsFunc Try.prog 30 2 ac30 [.tmp 4] := isFunc_of _ [(0, [0, 1]), (1, [0, 1, 5]), (2, [0, 1, 5, 6]), (3, [0, 1, 6, 11]), (4, [12]), (5, [4]), (6, [4]), (7, [0, 1, 13]), (8, [4]), (9, [0, 1, 16]), (10, [4]), (11, [19]), (12, [4]), (13, [4])] Try.func30 (by kernel_rfl)
/-- waymark/waymarkref1.Out; loop heads: [[1, 2, 5, 6]] -/
def ac33 : ACode :=
  (.seq
   (.reg [
     ⟨(some 2), (.box (.tmp 0)), none, []⟩,
     ⟨(some 4), (.move (.const (.slice none 0 0))), none, []⟩] false [1, 2])
   (.seq
    (.reg [
      ⟨(some 5), (.move (.const (.slice none 0 0))), none, []⟩] false [1, 2, 5])
    (.seq
     (.seq
      (.reg [
        ⟨(some 6), (.move (.const (.int .i64 0))), none, []⟩] false [1, 2, 5, 6])
      (.block 0
        (.loop
          (.seq
           (.seq
            (.reg [
              ⟨(some 10), (.move (.tmp 6)), none, []⟩,
              ⟨(some 11), (.fieldAddr 1 (.tmp 2)), none, []⟩,
              ⟨(some 12), (.load false 1 (.tmp 11)), none, []⟩,
              ⟨(some 13), (.lenS (.tmp 12)), none, []⟩,
              ⟨(some 14), (.bin .mul (.const (.int .i64 2)) (.tmp 13)), none, []⟩,
              ⟨(some 15), (.bin .lss (.tmp 10) (.tmp 14)), none, []⟩] false [1, 2, 5, 6, 15])
            (.cond (.tmp 15)
              .skip
              (.exit 0)))
           (.seq
            (.block 1
              (.seq
               (.reg [
                 ⟨(some 19), (.load true 2 (.tmp 2)), none, []⟩,
                 ⟨(some 20), (.move (.tmp 6)), none, []⟩,
                 ⟨(some 21), (.callF 17 [(.tmp 19), (.tmp 20)]), none, []⟩,
                 ⟨(some 18), (.move (.tmp 21)), none, []⟩,
                 ⟨(some 22), (.extract (.tmp 18) 0), none, []⟩,
                 ⟨(some 23), (.extract (.tmp 18) 1), none, []⟩,
                 ⟨(some 24), (.extract (.tmp 18) 2), none, []⟩,
                 ⟨(some 7), (.move (.tmp 22)), none, []⟩,
                 ⟨(some 8), (.move (.tmp 23)), none, []⟩,
                 ⟨(some 9), (.move (.tmp 24)), none, []⟩] false [1, 2, 5, 6, 7])
               (.seq
                (.reg [
                  ⟨(some 25), (.move (.tmp 7)), none, []⟩,
                  ⟨(some 26), (.move (.tmp 1)), none, []⟩,
                  ⟨(some 27), (.bin .eql (.tmp 25) (.tmp 26)), none, []⟩] false [1, 2, 5, 6, 27])
                (.cond (.tmp 27)
                  (.reg [
                    ⟨(some 28), (.move (.tmp 5)), none, []⟩,
                    ⟨(some 29), (.move (.tmp 6)), none, []⟩,
                    ⟨(some 30), (.buildSlice 1 1 [(.sc (.int .i64 0))] [(0, (.tmp 29))]), none, []⟩,
                    ⟨(some 31), (.append 1 8 [(.sc (.int .i64 0))] (.tmp 28) (.tmp 30)), none, []⟩,
                    ⟨(some 5), (.move (.tmp 31)), none, []⟩] false [1, 2, 5, 6])
                  .skip))))
            (.reg [
              ⟨(some 16), (.move (.tmp 6)), none, []⟩,
              ⟨(some 17), (.bin .add (.tmp 16) (.const (.int .i64 1))), none, []⟩,
              ⟨(some 6), (.move (.tmp 17)), none, []⟩] false [1, 2, 5, 6]))))))
     (.seq
      (.reg [
        ⟨(some 32), (.move (.tmp 5)), none, []⟩,
        ⟨(some 4), (.move (.tmp 32)), none, []⟩] false [4])
      .ret))))
-- simp set: ac33
theorem isF33 : IsFunc Try.prog 33 2 ac33 [.tmp 4] := isFunc_of _ [(0, [1, 2]), (1, [1, 2, 5]), (2, [1, 2, 5, 6]), (3, [1, 2, 5, 6, 15]), (5, [1, 2, 5, 6, 7]), (6, [1, 2, 5, 6, 27]), (7, [1, 2, 5, 6]), (4, [1, 2, 5, 6]), (8, [4])] Try.func33 (by kernel_rfl)
/-- waymark/spf.From; loop heads: [[1, 2, 3, 7, 31, 32], [1, 3, 7, 9], [1, 3, 7, 9, 10, 64, 65, 66]] -/
def ac34 : ACode :=
  (.seq
   (.reg [
     ⟨(some 3), (.box (.tmp 0)), none, []⟩,
     ⟨(some 6), (.move (.const (.slice none 0 0))), none, []⟩] false [1, 2, 3])
   (.seq
    (.seq
     (.reg [
       ⟨(some 18), (.load true 2 (.tmp 3)), none, []⟩,
       ⟨(some 19), (.callF 35 [(.tmp 18)]), none, []⟩,
       ⟨(some 20), (.un .not (.tmp 19)), none, []⟩,
       ⟨(some 21), (.move (.tmp 20)), none, []⟩,
       ⟨(some 22), (.load true 2 (.tmp 3)), (some (21, false)), []⟩,
       ⟨(some 23), (.move (.tmp 2)), (some (21, false)), []⟩,
       ⟨(some 24), (.callF 26 [(.tmp 22), (.tmp 23)]), (some (21, false)), []⟩,
       ⟨(some 25), (.un .not (.tmp 24)), (some (21, false)), []⟩,
       ⟨(some 26), (.pick (.tmp 21) (.const (.bool true)) (.tmp 25)), none, []⟩] false [1, 2, 3, 26])
     (.cond (.tmp 26)
       (.seq
        (.reg [
          ⟨(some 6), (.move (.const (.slice none 0 0))), none, []⟩] false [6])
        .ret)
       .skip))
    (.seq
     (.reg [
       ⟨(some 27), (.fieldAddr 0 (.tmp 3)), none, []⟩,
       ⟨(some 28), (.load false 1 (.tmp 27)), none, []⟩,
       ⟨(some 29), (.makeSlice 1 8 [(.sc (.int .i64 0))] (.tmp 28) (.tmp 28)), none, []⟩,
       ⟨(some 7), (.move (.tmp 29)), none, []⟩] false [1, 2, 3, 7])
     (.seq
      (.seq
       (.reg [
         ⟨(some 30), (.move (.tmp 7)), none, []⟩,
         ⟨(some 31), (.lenS (.tmp 30)), none, []⟩,
         ⟨(some 32), (.move (.const (.int .i64 0))), none, []⟩] false [1, 2, 3, 7, 31, 32])
       (.block 0
         (.loop
           (.seq
            (.reg [
              ⟨(some 33), (.bin .lss (.tmp 32) (.tmp 31)), none, []⟩] false [1, 2, 3, 7, 31, 32, 33])
            (.seq
             (.cond (.tmp 33)
               .skip
               (.exit 0))
             (.seq
              (.block 1
                (.seq
                 (.reg [
                   ⟨(some 34), (.move (.tmp 32)), none, []⟩,
                   ⟨(some 8), (.move (.tmp 34)), none, []⟩] false [1, 2, 3, 7, 8, 31, 32])
                 (.reg [
                   ⟨(some 35), (.move (.tmp 7)), none, []⟩,
                   ⟨(some 36), (.move (.tmp 8)), none, []⟩,
                   ⟨(some 37), (.indexAddrS 1 (.tmp 35) (.tmp 36)), none, []⟩,
                   ⟨none, (.store 1 (.tmp 37) (.const (.int .i64 (-1)))), none, []⟩] false [1, 2, 3, 7, 31, 32])))
              (.reg [
                ⟨(some 38), (.bin .add (.tmp 32) (.const (.int .i64 1))), none, []⟩,
                ⟨(some 32), (.move (.tmp 38)), none, []⟩] false [1, 2, 3, 7, 31, 32])))))))
      (.seq
       (.reg [
         ⟨(some 39), (.build [.nils] []), none, []⟩,
         ⟨(some 40), (.box (.tmp 39)), none, []⟩,
         ⟨(some 9), (.move (.tmp 40)), none, []⟩] false [1, 2, 3, 7, 9])
       (.seq
        (.reg [
          ⟨(some 41), (.move (.tmp 9)), none, []⟩,
          ⟨(some 42), (.move (.tmp 2)), none, []⟩,
          ⟨(some 43), (.callF 51 [(.tmp 41), (.const (.int .i64 0)), (.tmp 42)]), none, []⟩] false [1, 3, 7, 9])
        (.block 2
          (.loop
            (.block 3
              (.seq
               (.reg [
                 ⟨(some 45), (.move (.tmp 9)), none, []⟩,
                 ⟨(some 46), (.callF 52 [(.tmp 45)]), none, []⟩,
                 ⟨(some 44), (.move (.tmp 46)), none, []⟩,
                 ⟨(some 47), (.extract (.tmp 44) 0), none, []⟩,
                 ⟨(some 48), (.extract (.tmp 44) 1), none, []⟩,
                 ⟨(some 49), (.extract (.tmp 44) 2), none, []⟩,
                 ⟨(some 10), (.move (.tmp 47)), none, []⟩,
                 ⟨(some 11), (.move (.tmp 48)), none, []⟩,
                 ⟨(some 12), (.move (.tmp 49)), none, []⟩] false [1, 3, 7, 9, 10, 11, 12])
               (.seq
                (.seq
                 (.reg [
                   ⟨(some 50), (.move (.tmp 12)), none, []⟩,
                   ⟨(some 51), (.un .not (.tmp 50)), none, []⟩] false [1, 3, 7, 9, 10, 11, 51])
                 (.cond (.tmp 51)
                   (.seq
                    (.reg [
                      ⟨(some 52), (.move (.tmp 7)), none, []⟩,
                      ⟨(some 6), (.move (.tmp 52)), none, []⟩] false [6])
                    .ret)
                   .skip))
                (.seq
                 (.seq
                  (.reg [
                    ⟨(some 53), (.move (.tmp 7)), none, []⟩,
                    ⟨(some 54), (.move (.tmp 11)), none, []⟩,
                    ⟨(some 55), (.indexAddrS 1 (.tmp 53) (.tmp 54)), none, []⟩,
                    ⟨(some 56), (.load false 1 (.tmp 55)), none, []⟩,
                    ⟨(some 57), (.bin .neq (.tmp 56) (.const (.int .i64 (-1)))), none, []⟩] false [1, 3, 7, 9, 10, 11, 57])
                  (.cond (.tmp 57)
                    (.exit 3)
                    .skip))
                 (.seq
                  (.reg [
                    ⟨(some 58), (.move (.tmp 7)), none, []⟩,
                    ⟨(some 59), (.move (.tmp 11)), none, []⟩,
                    ⟨(some 60), (.move (.tmp 10)), none, []⟩,
                    ⟨(some 61), (.indexAddrS 1 (.tmp 58) (.tmp 59)), none, []⟩,
                    ⟨none, (.store 1 (.tmp 61) (.tmp 60)), none, []⟩] false [1, 3, 7, 9, 10, 11])
                  (.seq
                   (.reg [
                     ⟨(some 62), (.load true 2 (.tmp 3)), none, []⟩,
                     ⟨(some 63), (.move (.tmp 11)), none, []⟩,
                     ⟨(some 64), (.callF 36 [(.tmp 62), (.tmp 63)]), none, []⟩,
                     ⟨(some 65), (.lenS (.tmp 64)), none, []⟩,
                     ⟨(some 66), (.move (.const (.int .i64 0))), none, []⟩] false [1, 3, 7, 9, 10, 64, 65, 66])
                   (.block 4
                     (.loop
                       (.seq
                        (.reg [
                          ⟨(some 67), (.bin .lss (.tmp 66) (.tmp 65)), none, []⟩] false [1, 3, 7, 9, 10, 64, 65, 66, 67])
                        (.seq
                         (.cond (.tmp 67)
                           .skip
                           (.exit 4))
                         (.seq
                          (.block 5
                            (.seq
                             (.reg [
                               ⟨(some 68), (.indexAddrS 1 (.tmp 64) (.tmp 66)), none, []⟩,
                               ⟨(some 69), (.load false 1 (.tmp 68)), none, []⟩,
                               ⟨(some 14), (.move (.tmp 69)), none, []⟩] false [1, 3, 7, 9, 10, 14, 64, 65, 66])
                             (.seq
                              (.reg [
                                ⟨(some 71), (.load true 2 (.tmp 3)), none, []⟩,
                                ⟨(some 72), (.move (.tmp 14)), none, []⟩,
                                ⟨(some 73), (.callF 22 [(.tmp 71), (.tmp 72)]), none, []⟩,
                                ⟨(some 70), (.move (.tmp 73)), none, []⟩,
                                ⟨(some 74), (.extract (.tmp 70) 0), none, []⟩,
                                ⟨(some 75), (.extract (.tmp 70) 1), none, []⟩,
                                ⟨(some 76), (.extract (.tmp 70) 2), none, []⟩,
                                ⟨(some 15), (.move (.tmp 74)), none, []⟩,
                                ⟨(some 16), (.move (.tmp 75)), none, []⟩,
                                ⟨(some 17), (.move (.tmp 76)), none, []⟩] false [1, 3, 7, 9, 10, 14, 16, 64, 65, 66])
                              (.seq
                               (.reg [
                                 ⟨(some 77), (.move (.tmp 1)), none, []⟩,
                                 ⟨(some 78), (.move (.tmp 14)), none, []⟩,
                                 ⟨(some 79), (.callF 37 [(.tmp 77), (.tmp 78)]), none, []⟩,
                                 ⟨(some 80), (.move (.tmp 79)), none, []⟩,
                                 ⟨(some 81), (.move (.tmp 7)), (some (80, true)), []⟩,
                                 ⟨(some 82), (.move (.tmp 16)), (some (80, true)), []⟩,
                                 ⟨(some 83), (.indexAddrS 1 (.tmp 81) (.tmp 82)), (some (80, true)), []⟩,
                                 ⟨(some 84), (.load false 1 (.tmp 83)), (some (80, true)), []⟩,
                                 ⟨(some 85), (.bin .eql (.tmp 84) (.const (.int .i64 (-1)))), (some (80, true)), []⟩,
                                 ⟨(some 86), (.pick (.tmp 80) (.tmp 85) (.const (.bool false))), none, []⟩] false [1, 3, 7, 9, 10, 14, 16, 64, 65, 66, 86])
                               (.cond (.tmp 86)
                                 (.reg [
                                   ⟨(some 87), (.move (.tmp 9)), none, []⟩,
                                   ⟨(some 88), (.move (.tmp 10)), none, []⟩,
                                   ⟨(some 89), (.fieldAddr 1 (.tmp 3)), none, []⟩,
                                   ⟨(some 90), (.load false 1 (.tmp 89)), none, []⟩,
                                   ⟨(some 91), (.move (.tmp 14)), none, []⟩,
                                   ⟨(some 92), (.bin .quo (.tmp 91) (.const (.int .i64 2))), none, []⟩,
                                   ⟨(some 93), (.indexAddrS 4 (.tmp 90) (.tmp 92)), none, []⟩,
                                   ⟨(some 94), (.fieldAddr 2 (.tmp 93)), none, []⟩,
                                   ⟨(some 95), (.load false 1 (.tmp 94)), none, []⟩,
                                   ⟨(some 96), (.bin .add (.tmp 88) (.tmp 95)), none, []⟩,
                                   ⟨(some 97), (.move (.tmp 16)), none, []⟩,
                                   ⟨(some 98), (.callF 51 [(.tmp 87), (.tmp 96), (.tmp 97)]), none, []⟩] false [1, 3, 7, 9, 10, 64, 65, 66])
                                 .skip)))))
                          (.reg [
                            ⟨(some 99), (.bin .add (.tmp 66) (.const (.int .i64 1))), none, []⟩,
                            ⟨(some 66), (.move (.tmp 99)), none, []⟩] false [1, 3, 7, 9, 10, 64, 65, 66]))))))))))))))))))))
-- simp set: ac34
theorem isF34 : IsFunc Try.prog 34 3 ac34 [.tmp 6] := isFunc_of _ [(0, [1, 2, 3]), (1, [1, 2, 3, 26]), (2, [6]), (3, [1, 2, 3, 7]), (4, [1, 2, 3, 7, 31, 32]), (5, [1, 2, 3, 7, 31, 32, 33]), (6, [1, 2, 3, 7, 8, 31, 32]), (7, [1, 2, 3, 7, 31, 32]), (8, [1, 2, 3, 7, 31, 32]), (9, [1, 2, 3, 7, 9]), (10, [1, 3, 7, 9]), (11, [1, 3, 7, 9, 10, 11, 12]), (12, [1, 3, 7, 9, 10, 11, 51]), (13, [6]), (14, [1, 3, 7, 9, 10, 11, 57]), (15, [1, 3, 7, 9, 10, 11]), (16, [1, 3, 7, 9, 10, 64, 65, 66]), (17, [1, 3, 7, 9, 10, 64, 65, 66, 67]), (18, [1, 3, 7, 9, 10, 14, 64, 65, 66]), (19, [1, 3, 7, 9, 10, 14, 16, 64, 65, 66]), (20, [1, 3, 7, 9, 10, 14, 16, 64, 65, 66, 86]), (21, [1, 3, 7, 9, 10, 64, 65, 66]), (22, [1, 3, 7, 9, 10, 64, 65, 66])] Try.func34 (by kernel_rfl)
/-- waymark/graph.Right; loop heads: [] -/
def ac35 : ACode :=
  (.seq
   (.reg [
     ⟨(some 1), (.box (.tmp 0)), none, []⟩,
     ⟨(some 2), (.move (.const (.bool false))), none, []⟩] false [1])
   (.seq
    (.reg [
      ⟨(some 6), (.load true 2 (.tmp 1)), none, []⟩,
      ⟨(some 7), (.callF 53 [(.tmp 6)]), none, []⟩,
      ⟨(some 5), (.move (.tmp 7)), none, []⟩,
      ⟨(some 8), (.extract (.tmp 5) 0), none, []⟩,
      ⟨(some 9), (.extract (.tmp 5) 1), none, []⟩,
      ⟨(some 3), (.move (.tmp 8)), none, []⟩,
      ⟨(some 4), (.move (.tmp 9)), none, []⟩] false [4])
    (.seq
     (.reg [
       ⟨(some 10), (.move (.tmp 4)), none, []⟩,
       ⟨(some 11), (.bin .eql (.tmp 10) (.const (.int .i64 0))), none, []⟩,
       ⟨(some 2), (.move (.tmp 11)), none, []⟩] false [2])
     .ret)))
-- simp set: ac35
theorem isF35 : IsFunc Try.prog 35 1 ac35 [.tmp 2] := isFunc_of _ [(0, [1]), (1, [4]), (2, [2])] Try.func35 (by kernel_rfl)
/-- waymark/graph.Out; loop heads: [[1, 2, 5, 13, 14]] -/
def ac36 : ACode :=
  (.seq
   (.reg [
     ⟨(some 2), (.box (.tmp 0)), none, []⟩,
     ⟨(some 4), (.move (.const (.slice none 0 0))), none, []⟩] false [1, 2])
   (.seq
    (.reg [
      ⟨(some 5), (.move (.const (.slice none 0 0))), none, []⟩] false [1, 2, 5])
    (.seq
     (.seq
      (.reg [
        ⟨(some 10), (.fieldAddr 1 (.tmp 2)), none, []⟩,
        ⟨(some 11), (.load false 1 (.tmp 10)), none, []⟩,
        ⟨(some 12), (.lenS (.tmp 11)), none, []⟩,
        ⟨(some 13), (.bin .mul (.const (.int .i64 2)) (.tmp 12)), none, []⟩,
        ⟨(some 14), (.move (.const (.int .i64 0))), none, []⟩] false [1, 2, 5, 13, 14])
      (.block 0
        (.loop
          (.seq
           (.reg [
             ⟨(some 15), (.bin .lss (.tmp 14) (.tmp 13)), none, []⟩] false [1, 2, 5, 13, 14, 15])
           (.seq
            (.cond (.tmp 15)
              .skip
              (.exit 0))
            (.seq
             (.block 1
               (.seq
                (.reg [
                  ⟨(some 16), (.move (.tmp 14)), none, []⟩,
                  ⟨(some 6), (.move (.tmp 16)), none, []⟩] false [1, 2, 5, 6, 13, 14])
                (.seq
                 (.reg [
                   ⟨(some 18), (.load true 2 (.tmp 2)), none, []⟩,
                   ⟨(some 19), (.move (.tmp 6)), none, []⟩,
                   ⟨(some 20), (.callF 22 [(.tmp 18), (.tmp 19)]), none, []⟩,
                   ⟨(some 17), (.move (.tmp 20)), none, []⟩,
                   ⟨(some 21), (.extract (.tmp 17) 0), none, []⟩,
                   ⟨(some 22), (.extract (.tmp 17) 1), none, []⟩,
                   ⟨(some 23), (.extract (.tmp 17) 2), none, []⟩,
                   ⟨(some 7), (.move (.tmp 21)), none, []⟩,
                   ⟨(some 8), (.move (.tmp 22)), none, []⟩,
                   ⟨(some 9), (.move (.tmp 23)), none, []⟩] false [1, 2, 5, 6, 7, 13, 14])
                 (.seq
                  (.reg [
                    ⟨(some 24), (.move (.tmp 7)), none, []⟩,
                    ⟨(some 25), (.move (.tmp 1)), none, []⟩,
                    ⟨(some 26), (.bin .eql (.tmp 24) (.tmp 25)), none, []⟩] false [1, 2, 5, 6, 13, 14, 26])
                  (.cond (.tmp 26)
                    (.reg [
                      ⟨(some 27), (.move (.tmp 5)), none, []⟩,
                      ⟨(some 28), (.move (.tmp 6)), none, []⟩,
                      ⟨(some 29), (.buildSlice 1 1 [(.sc (.int .i64 0))] [(0, (.tmp 28))]), none, []⟩,
                      ⟨(some 30), (.append 1 8 [(.sc (.int .i64 0))] (.tmp 27) (.tmp 29)), none, []⟩,
                      ⟨(some 5), (.move (.tmp 30)), none, []⟩] false [1, 2, 5, 13, 14])
                    .skip)))))
             (.reg [
               ⟨(some 31), (.bin .add (.tmp 14) (.const (.int .i64 1))), none, []⟩,
               ⟨(some 14), (.move (.tmp 31)), none, []⟩] false [1, 2, 5, 13, 14])))))))
     (.seq
      (.reg [
        ⟨(some 32), (.move (.tmp 5)), none, []⟩,
        ⟨(some 4), (.move (.tmp 32)), none, []⟩] false [4])
      .ret))))
-- simp set: ac36
theorem isF36 : IsFunc Try.prog 36 2 ac36 [.tmp 4] := isFunc_of _ [(0, [1, 2]), (1, [1, 2, 5]), (2, [1, 2, 5, 13, 14]), (3, [1, 2, 5, 13, 14, 15]), (4, [1, 2, 5, 6, 13, 14]), (5, [1, 2, 5, 6, 7, 13, 14]), (6, [1, 2, 5, 6, 13, 14, 26]), (7, [1, 2, 5, 13, 14]), (8, [1, 2, 5, 13, 14]), (9, [4])] Try.func36 (by kernel_rfl)
/-- waymark/spf.Up; loop heads: [] -/
def ac37 : ACode :=
  (.seq
   (.reg [
     ⟨(some 4), (.move (.const (.bool false))), none, []⟩] false [0, 1])
   (.seq
    (.reg [
      ⟨(some 5), (.move (.tmp 1)), none, []⟩,
      ⟨(some 6), (.bin .quo (.tmp 5) (.const (.int .i64 2))), none, []⟩,
      ⟨(some 7), (.move (.tmp 0)), none, []⟩,
      ⟨(some 8), (.lenS (.tmp 7)), none, []⟩,
      ⟨(some 9), (.bin .geq (.tmp 6) (.tmp 8)), none, []⟩,
      ⟨(some 10), (.move (.tmp 9)), none, []⟩,
      ⟨(some 11), (.move (.tmp 0)), (some (10, false)), []⟩,
      ⟨(some 12), (.move (.tmp 1)), (some (10, false)), []⟩,
      ⟨(some 13), (.bin .quo (.tmp 12) (.const (.int .i64 2))), (some (10, false)), []⟩,
      ⟨(some 14), (.indexAddrS 1 (.tmp 11) (.tmp 13)), (some (10, false)), []⟩,
      ⟨(some 15), (.load false 1 (.tmp 14)), (some (10, false)), []⟩,
      ⟨(some 16), (.un .not (.tmp 15)), (some (10, false)), []⟩,
      ⟨(some 17), (.pick (.tmp 10) (.const (.bool true)) (.tmp 16)), none, []⟩,
      ⟨(some 4), (.move (.tmp 17)), none, []⟩] false [4])
    .ret))
-- simp set: ac37
theorem isF37 : IsFunc Try.prog 37 2 ac37 [.tmp 4] := isFunc_of _ [(0, [0, 1]), (1, [4])] Try.func37 (by kernel_rfl)
/-- cmp.isNaN[int]; loop heads: [] -/
def ac39 : ACode :=
  (.seq
   (.reg [
     ⟨(some 2), (.move (.const (.bool false))), none, []⟩] false [0])
   (.seq
    (.reg [
      ⟨(some 3), (.move (.tmp 0)), none, []⟩,
      ⟨(some 4), (.move (.tmp 0)), none, []⟩,
      ⟨(some 5), (.bin .neq (.tmp 3) (.tmp 4)), none, []⟩,
      ⟨(some 2), (.move (.tmp 5)), none, []⟩] false [2])
    .ret))
-- simp set: ac39
theorem isF39 : IsFunc Try.prog 39 1 ac39 [.tmp 2] := isFunc_of _ [(0, [0]), (1, [2])] Try.func39 (by kernel_rfl)
/-- cmp.Less[int]; loop heads: [] -/
def ac46 : ACode :=
  (.seq
   (.reg [
     ⟨(some 4), (.move (.const (.bool false))), none, []⟩] false [0, 1])
   (.seq
    (.reg [
      ⟨(some 5), (.move (.tmp 0)), none, []⟩,
      ⟨(some 6), (.callF 39 [(.tmp 5)]), none, []⟩,
      ⟨(some 7), (.move (.tmp 6)), none, []⟩,
      ⟨(some 8), (.move (.tmp 1)), (some (7, true)), []⟩,
      ⟨(some 9), (.callF 39 [(.tmp 8)]), (some (7, true)), []⟩,
      ⟨(some 10), (.un .not (.tmp 9)), (some (7, true)), []⟩,
      ⟨(some 11), (.pick (.tmp 7) (.tmp 10) (.const (.bool false))), none, []⟩,
      ⟨(some 12), (.move (.tmp 11)), none, []⟩,
      ⟨(some 13), (.move (.tmp 0)), (some (12, false)), []⟩,
      ⟨(some 14), (.move (.tmp 1)), (some (12, false)), []⟩,
      ⟨(some 15), (.bin .lss (.tmp 13) (.tmp 14)), (some (12, false)), []⟩,
      ⟨(some 16), (.pick (.tmp 12) (.const (.bool true)) (.tmp 15)), none, []⟩,
      ⟨(some 4), (.move (.tmp 16)), none, []⟩] false [4])
    .ret))
-- simp set: ac46
theorem isF46 : IsFunc Try.prog 46 2 ac46 [.tmp 4] := isFunc_of _ [(0, [0, 1]), (1, [4])] Try.func46 (by kernel_rfl)
/-- (*waymark/heap.Heap).Push; loop heads: [[0, 6]] -/
def op51_33 : List AOper := [
    ⟨(some 33), (.move (.tmp 0)), none, []⟩,
    ⟨(some 34), (.nilCheck (.tmp 33)), none, [0]⟩,
    ⟨(some 35), (.fieldAddr 0 (.tmp 34)), none, [1]⟩,
    ⟨(some 36), (.load false 1 (.tmp 35)), none, [2]⟩,
    ⟨(some 37), (.move (.tmp 6)), none, []⟩,
    ⟨(some 38), (.indexAddrS 2 (.tmp 36) (.tmp 37)), none, [3, 4]⟩,
    ⟨(some 39), (.load true 2 (.tmp 38)), none, [5]⟩,
    ⟨(some 40), (.move (.tmp 0)), none, []⟩,
    ⟨(some 41), (.nilCheck (.tmp 40)), none, [7]⟩,
    ⟨(some 42), (.fieldAddr 0 (.tmp 41)), none, [8]⟩,
    ⟨(some 43), (.load false 1 (.tmp 42)), none, [9]⟩,
    ⟨(some 44), (.move (.tmp 7)), none, []⟩,
    ⟨(some 45), (.indexAddrS 2 (.tmp 43) (.tmp 44)), none, [10, 11]⟩,
    ⟨(some 46), (.load true 2 (.tmp 45)), none, [12]⟩,
    ⟨(some 47), (.callF 67 [(.tmp 39), (.tmp 46)]), none, [6, 13]⟩,
    ⟨(some 48), (.un .not (.tmp 47)), none, [14]⟩]
@[go_sem ↓] theorem op51_33_run {K : AExit → Fr → Store → Prop} {fr : Fr} {σ : Store} : wp Try.prog (.reg op51_33 true [0, 6, 7, 48]) K fr σ = wpOpsD Try.prog (Kreg [0, 6, 7, 48] K) op51_33 (Fr.get fr) σ := wp_draw (by kernel_rfl)
def op51_49 : List AOper := [
    ⟨(some 49), (.move (.tmp 0)), none, []⟩,
    ⟨(some 50), (.nilCheck (.tmp 49)), none, [0]⟩,
    ⟨(some 51), (.fieldAddr 0 (.tmp 50)), none, [1]⟩,
    ⟨(some 52), (.load false 1 (.tmp 51)), none, [2]⟩,
    ⟨(some 53), (.move (.tmp 6)), none, []⟩,
    ⟨(some 54), (.move (.tmp 0)), none, []⟩,
    ⟨(some 55), (.nilCheck (.tmp 54)), none, [5]⟩,
    ⟨(some 56), (.fieldAddr 0 (.tmp 55)), none, [6]⟩,
    ⟨(some 57), (.load false 1 (.tmp 56)), none, [7]⟩,
    ⟨(some 58), (.move (.tmp 7)), none, []⟩,
    ⟨(some 59), (.move (.tmp 0)), none, []⟩,
    ⟨(some 60), (.nilCheck (.tmp 59)), none, [10]⟩,
    ⟨(some 61), (.fieldAddr 0 (.tmp 60)), none, [11]⟩,
    ⟨(some 62), (.load false 1 (.tmp 61)), none, [12]⟩,
    ⟨(some 63), (.move (.tmp 7)), none, []⟩,
    ⟨(some 64), (.indexAddrS 2 (.tmp 62) (.tmp 63)), none, [13, 14]⟩,
    ⟨(some 65), (.load true 2 (.tmp 64)), none, [15]⟩,
    ⟨(some 66), (.move (.tmp 0)), none, []⟩,
    ⟨(some 67), (.nilCheck (.tmp 66)), none, [17]⟩,
    ⟨(some 68), (.fieldAddr 0 (.tmp 67)), none, [18]⟩,
    ⟨(some 69), (.load false 1 (.tmp 68)), none, [19]⟩,
    ⟨(some 70), (.move (.tmp 6)), none, []⟩,
    ⟨(some 71), (.indexAddrS 2 (.tmp 69) (.tmp 70)), none, [20, 21]⟩,
    ⟨(some 72), (.load true 2 (.tmp 71)), none, [22]⟩,
    ⟨(some 73), (.indexAddrS 2 (.tmp 52) (.tmp 53)), none, [3, 4, 0, 1, 2, 3, 4, 8, 10, 11, 12, 13, 14, 15, 16, 20, 23]⟩,
    ⟨none, (.store 2 (.tmp 73) (.tmp 65)), none, [24, 16, 0, 1, 2, 3, 4, 8, 10, 11, 12, 13, 14, 15, 16, 20, 23]⟩,
    ⟨(some 74), (.indexAddrS 2 (.tmp 57) (.tmp 58)), none, [8, 9, 0, 1, 2, 3, 4, 5, 6, 7, 8, 9, 10, 11, 12, 13, 14, 15, 16, 17, 18, 19, 20, 21, 22, 23, 24, 25]⟩,
    ⟨none, (.store 2 (.tmp 74) (.tmp 72)), none, [26, 23, 25, 0, 1, 2, 3, 4, 5, 6, 7, 8, 9, 10, 11, 12, 13, 14, 15, 16, 17, 18, 19, 20, 21, 22, 23, 24, 25]⟩]
@[go_sem ↓] theorem op51_49_run {K : AExit → Fr → Store → Prop} {fr : Fr} {σ : Store} : wp Try.prog (.reg op51_49 true [0, 7]) K fr σ = wpOpsD Try.prog (Kreg [0, 7] K) op51_49 (Fr.get fr) σ := wp_draw (by kernel_rfl)
def ac51 : ACode :=
  (.seq
   (.seq
    (.reg [
      ⟨(some 8), (.move (.tmp 0)), none, []⟩,
      ⟨(some 9), (.eqPtr false (.tmp 8) (.const (.pointer none))), none, []⟩] false [0, 1, 2, 9])
    (.cond (.tmp 9)
      .ret
      .skip))
   (.seq
    (.reg [
      ⟨(some 10), (.move (.tmp 0)), none, []⟩,
      ⟨(some 11), (.move (.tmp 0)), none, []⟩,
      ⟨(some 12), (.nilCheck (.tmp 11)), none, []⟩,
      ⟨(some 13), (.fieldAddr 0 (.tmp 12)), none, []⟩,
      ⟨(some 14), (.load false 1 (.tmp 13)), none, []⟩,
      ⟨(some 15), (.move (.tmp 1)), none, []⟩,
      ⟨(some 16), (.move (.tmp 2)), none, []⟩,
      ⟨(some 17), (.build [(.sc (.int .i64 0)), (.sc (.int .i64 0))] [(0, 1, (.tmp 15)), (1, 1, (.tmp 16))]), none, []⟩,
      ⟨(some 18), (.buildSlice 2 1 [(.sc (.int .i64 0)), (.sc (.int .i64 0))] [(0, (.tmp 17))]), none, []⟩,
      ⟨(some 19), (.append 2 16 [(.sc (.int .i64 0)), (.sc (.int .i64 0))] (.tmp 14) (.tmp 18)), none, []⟩,
      ⟨(some 20), (.nilCheck (.tmp 10)), none, []⟩,
      ⟨(some 21), (.fieldAddr 0 (.tmp 20)), none, []⟩,
      ⟨none, (.store 1 (.tmp 21) (.tmp 19)), none, []⟩] false [0])
    (.seq
     (.reg [
       ⟨(some 22), (.move (.tmp 0)), none, []⟩,
       ⟨(some 23), (.nilCheck (.tmp 22)), none, []⟩,
       ⟨(some 24), (.fieldAddr 0 (.tmp 23)), none, []⟩,
       ⟨(some 25), (.load false 1 (.tmp 24)), none, []⟩,
       ⟨(some 26), (.lenS (.tmp 25)), none, []⟩,
       ⟨(some 27), (.bin .sub (.tmp 26) (.const (.int .i64 1))), none, []⟩,
       ⟨(some 6), (.move (.tmp 27)), none, []⟩] false [0, 6])
     (.block 0
       (.loop
         (.seq
          (.seq
           (.reg [
             ⟨(some 28), (.move (.tmp 6)), none, []⟩,
             ⟨(some 29), (.bin .gtr (.tmp 28) (.const (.int .i64 0))), none, []⟩] false [0, 6, 29])
           (.cond (.tmp 29)
             .skip
             (.exit 0)))
          (.block 1
            (.seq
             (.reg [
               ⟨(some 30), (.move (.tmp 6)), none, []⟩,
               ⟨(some 31), (.bin .sub (.tmp 30) (.const (.int .i64 1))), none, []⟩,
               ⟨(some 32), (.bin .quo (.tmp 31) (.const (.int .i64 2))), none, []⟩,
               ⟨(some 7), (.move (.tmp 32)), none, []⟩] false [0, 6, 7])
             (.seq
              (.seq
               (.reg op51_33 true [0, 6, 7, 48])
               (.cond (.tmp 48)
                 .ret
                 .skip))
              (.seq
               (.reg op51_49 true [0, 7])
               (.reg [
                 ⟨(some 75), (.move (.tmp 7)), none, []⟩,
                 ⟨(some 6), (.move (.tmp 75)), none, []⟩] false [0, 6])))))))))))
-- simp set: ac51, op51_33, op51_49
theorem isF51 : IsFunc Try.prog 51 3 ac51 [] := isFunc_of _ [(0, [0, 1, 2, 9]), (1, [0]), (2, [0, 6]), (3, [0, 6, 29]), (4, [0, 6, 7]), (5, [0, 6, 7, 48]), (6, [0, 7]), (7, [0, 6])] Try.func51 (by kernel_rfl)
/-- (*waymark/heap.Heap).Pop; loop heads: [[0, 5, 7]] -/
def op52_24 : List AOper := [
    ⟨(some 24), (.move (.tmp 0)), none, []⟩,
    ⟨(some 25), (.nilCheck (.tmp 24)), none, [0]⟩,
    ⟨(some 26), (.fieldAddr 0 (.tmp 25)), none, [1]⟩,
    ⟨(some 27), (.load false 1 (.tmp 26)), none, [2]⟩,
    ⟨(some 28), (.move (.tmp 0)), none, []⟩,
    ⟨(some 29), (.nilCheck (.tmp 28)), none, [4]⟩,
    ⟨(some 30), (.fieldAddr 0 (.tmp 29)), none, [5]⟩,
    ⟨(some 31), (.load false 1 (.tmp 30)), none, [6]⟩,
    ⟨(some 32), (.move (.tmp 6)), none, []⟩,
    ⟨(some 33), (.indexAddrS 2 (.tmp 31) (.tmp 32)), none, [7, 8]⟩,
    ⟨(some 34), (.load true 2 (.tmp 33)), none, [9]⟩,
    ⟨(some 35), (.indexAddrS 2 (.tmp 27) (.const (.int .i64 0))), none, [3, 0, 1, 2, 3, 4, 5, 6, 7, 8, 9, 10]⟩,
    ⟨none, (.store 2 (.tmp 35) (.tmp 34)), none, [11, 10, 0, 1, 2, 3, 4, 5, 6, 7, 8, 9, 10]⟩]
@[go_sem ↓] theorem op52_24_run {K : AExit → Fr → Store → Prop} {fr : Fr} {σ : Store} : wp Try.prog (.reg op52_24 true [0, 5, 6]) K fr σ = wpOpsD Try.prog (Kreg [0, 5, 6] K) op52_24 (Fr.get fr) σ := wp_draw (by kernel_rfl)
def op52_51 : List AOper := [
    ⟨(some 51), (.fieldAddr 0 (.tmp 5)), none, []⟩,
    ⟨(some 52), (.load false 1 (.tmp 51)), none, [0]⟩,
    ⟨(some 53), (.fieldAddr 1 (.tmp 5)), none, []⟩,
    ⟨(some 54), (.load false 1 (.tmp 53)), none, [2]⟩,
    ⟨(some 2), (.move (.tmp 52)), none, [1, 0, 1]⟩,
    ⟨(some 3), (.move (.tmp 54)), none, [3, 4, 0, 1, 2, 3, 4]⟩,
    ⟨(some 4), (.move (.const (.bool true))), none, [5, 0, 1, 2, 3, 4, 5]⟩]
@[go_sem ↓] theorem op52_51_run {K : AExit → Fr → Store → Prop} {fr : Fr} {σ : Store} : wp Try.prog (.reg op52_51 true [2, 3, 4]) K fr σ = wpOpsD Try.prog (Kreg [2, 3, 4] K) op52_51 (Fr.get fr) σ := wp_draw (by kernel_rfl)
def op52_55 : List AOper := [
    ⟨(some 55), (.move (.tmp 0)), none, []⟩,
    ⟨(some 56), (.nilCheck (.tmp 55)), none, [0]⟩,
    ⟨(some 57), (.fieldAddr 0 (.tmp 56)), none, [1]⟩,
    ⟨(some 58), (.load false 1 (.tmp 57)), none, [2]⟩,
    ⟨(some 59), (.move (.tmp 7)), none, []⟩,
    ⟨(some 60), (.move (.tmp 0)), none, []⟩,
    ⟨(some 61), (.nilCheck (.tmp 60)), none, [5]⟩,
    ⟨(some 62), (.fieldAddr 0 (.tmp 61)), none, [6]⟩,
    ⟨(some 63), (.load false 1 (.tmp 62)), none, [7]⟩,
    ⟨(some 64), (.move (.tmp 8)), none, []⟩,
    ⟨(some 65), (.move (.tmp 0)), none, []⟩,
    ⟨(some 66), (.nilCheck (.tmp 65)), none, [10]⟩,
    ⟨(some 67), (.fieldAddr 0 (.tmp 66)), none, [11]⟩,
    ⟨(some 68), (.load false 1 (.tmp 67)), none, [12]⟩,
    ⟨(some 69), (.move (.tmp 8)), none, []⟩,
    ⟨(some 70), (.indexAddrS 2 (.tmp 68) (.tmp 69)), none, [13, 14]⟩,
    ⟨(some 71), (.load true 2 (.tmp 70)), none, [15]⟩,
    ⟨(some 72), (.move (.tmp 0)), none, []⟩,
    ⟨(some 73), (.nilCheck (.tmp 72)), none, [17]⟩,
    ⟨(some 74), (.fieldAddr 0 (.tmp 73)), none, [18]⟩,
    ⟨(some 75), (.load false 1 (.tmp 74)), none, [19]⟩,
    ⟨(some 76), (.move (.tmp 7)), none, []⟩,
    ⟨(some 77), (.indexAddrS 2 (.tmp 75) (.tmp 76)), none, [20, 21]⟩,
    ⟨(some 78), (.load true 2 (.tmp 77)), none, [22]⟩,
    ⟨(some 79), (.indexAddrS 2 (.tmp 58) (.tmp 59)), none, [3, 4, 0, 1, 2, 3, 4, 8, 10, 11, 12, 13, 14, 15, 16, 20, 23]⟩,
    ⟨none, (.store 2 (.tmp 79) (.tmp 71)), none, [24, 16, 0, 1, 2, 3, 4, 8, 10, 11, 12, 13, 14, 15, 16, 20, 23]⟩,
    ⟨(some 80), (.indexAddrS 2 (.tmp 63) (.tmp 64)), none, [8, 9, 0, 1, 2, 3, 4, 5, 6, 7, 8, 9, 10, 11, 12, 13, 14, 15, 16, 17, 18, 19, 20, 21, 22, 23, 24, 25]⟩,
    ⟨none, (.store 2 (.tmp 80) (.tmp 78)), none, [26, 23, 25, 0, 1, 2, 3, 4, 5, 6, 7, 8, 9, 10, 11, 12, 13, 14, 15, 16, 17, 18, 19, 20, 21, 22, 23, 24, 25]⟩]
@[go_sem ↓] theorem op52_55_run {K : AExit → Fr → Store → Prop} {fr : Fr} {σ : Store} : wp Try.prog (.reg op52_55 true [0, 5, 8]) K fr σ = wpOpsD Try.prog (Kreg [0, 5, 8] K) op52_55 (Fr.get fr) σ := wp_draw (by kernel_rfl)
def ac52 : ACode :=
  (.seq
   (.reg [
     ⟨(some 2), (.move (.const (.int .i64 0))), none, []⟩,
     ⟨(some 3), (.move (.const (.int .i64 0))), none, []⟩,
     ⟨(some 4), (.move (.const (.bool false))), none, []⟩] false [0])
   (.seq
    (.seq
     (.reg [
       ⟨(some 9), (.move (.tmp 0)), none, []⟩,
       ⟨(some 10), (.callF 68 [(.tmp 9)]), none, []⟩,
       ⟨(some 11), (.bin .eql (.tmp 10) (.const (.int .i64 0))), none, []⟩] false [0, 11])
     (.cond (.tmp 11)
       (.seq
        (.reg [
          ⟨(some 2), (.move (.const (.int .i64 0))), none, []⟩,
          ⟨(some 3), (.move (.const (.int .i64 0))), none, []⟩,
          ⟨(some 4), (.move (.const (.bool false))), none, []⟩] false [2, 3, 4])
        .ret)
       .skip))
    (.seq
     (.reg [
       ⟨(some 12), (.move (.tmp 0)), none, []⟩,
       ⟨(some 13), (.nilCheck (.tmp 12)), none, []⟩,
       ⟨(some 14), (.fieldAddr 0 (.tmp 13)), none, []⟩,
       ⟨(some 15), (.load false 1 (.tmp 14)), none, []⟩,
       ⟨(some 16), (.indexAddrS 2 (.tmp 15) (.const (.int .i64 0))), none, []⟩,
       ⟨(some 17), (.load true 2 (.tmp 16)), none, []⟩,
       ⟨(some 5), (.alloc [(.sc (.int .i64 0)), (.sc (.int .i64 0))]), none, []⟩,
       ⟨none, (.store 2 (.tmp 5) (.tmp 17)), none, []⟩] false [0, 5])
     (.seq
      (.reg [
        ⟨(some 18), (.move (.tmp 0)), none, []⟩,
        ⟨(some 19), (.nilCheck (.tmp 18)), none, []⟩,
        ⟨(some 20), (.fieldAddr 0 (.tmp 19)), none, []⟩,
        ⟨(some 21), (.load false 1 (.tmp 20)), none, []⟩,
        ⟨(some 22), (.lenS (.tmp 21)), none, []⟩,
        ⟨(some 23), (.bin .sub (.tmp 22) (.const (.int .i64 1))), none, []⟩,
        ⟨(some 6), (.move (.tmp 23)), none, []⟩] false [0, 5, 6])
      (.seq
       (.reg op52_24 true [0, 5, 6])
       (.seq
        (.reg [
          ⟨(some 36), (.move (.tmp 0)), none, []⟩,
          ⟨(some 37), (.move (.tmp 0)), none, []⟩,
          ⟨(some 38), (.nilCheck (.tmp 37)), none, []⟩,
          ⟨(some 39), (.fieldAddr 0 (.tmp 38)), none, []⟩,
          ⟨(some 40), (.load false 1 (.tmp 39)), none, []⟩,
          ⟨(some 41), (.move (.tmp 6)), none, []⟩,
          ⟨(some 42), (.slice 2 (.tmp 40) none (some (.tmp 41)) none), none, []⟩,
          ⟨(some 43), (.nilCheck (.tmp 36)), none, []⟩,
          ⟨(some 44), (.fieldAddr 0 (.tmp 43)), none, []⟩,
          ⟨none, (.store 1 (.tmp 44) (.tmp 42)), none, []⟩] false [0, 5])
        (.seq
         (.reg [
           ⟨(some 7), (.move (.const (.int .i64 0))), none, []⟩] false [0, 5, 7])
         (.block 0
           (.loop
             (.block 1
               (.seq
                (.reg [
                  ⟨(some 45), (.move (.tmp 0)), none, []⟩,
                  ⟨(some 46), (.move (.tmp 7)), none, []⟩,
                  ⟨(some 47), (.callF 69 [(.tmp 45), (.tmp 46)]), none, []⟩,
                  ⟨(some 8), (.move (.tmp 47)), none, []⟩] false [0, 5, 7, 8])
                (.seq
                 (.seq
                  (.reg [
                    ⟨(some 48), (.move (.tmp 8)), none, []⟩,
                    ⟨(some 49), (.move (.tmp 7)), none, []⟩,
                    ⟨(some 50), (.bin .eql (.tmp 48) (.tmp 49)), none, []⟩] false [0, 5, 7, 8, 50])
                  (.cond (.tmp 50)
                    (.seq
                     (.reg op52_51 true [2, 3, 4])
                     .ret)
                    .skip))
                 (.seq
                  (.reg op52_55 true [0, 5, 8])
                  (.reg [
                    ⟨(some 81), (.move (.tmp 8)), none, []⟩,
                    ⟨(some 7), (.move (.tmp 81)), none, []⟩] false [0, 5, 7]))))))))))))))
-- simp set: ac52, op52_24, op52_51, op52_55
theorem isF52 : IsFunc Try.prog 52 1 ac52 [.tmp 2, .tmp 3, .tmp 4] := isFunc_of _ [(0, [0]), (1, [0, 11]), (2, [2, 3, 4]), (3, [0, 5]), (4, [0, 5, 6]), (5, [0, 5, 6]), (6, [0, 5]), (7, [0, 5, 7]), (8, [0, 5, 7, 8]), (9, [0, 5, 7, 8, 50]), (10, [2, 3, 4]), (11, [0, 5, 8]), (12, [0, 5, 7])] Try.func52 (by kernel_rfl)
/-- waymark/graph.Check; loop heads: [[1, 22, 23, 24]] -/
def ac53 : ACode :=
  (.seq
   (.reg [
     ⟨(some 1), (.box (.tmp 0)), none, []⟩,
     ⟨(some 2), (.move (.const (.int .i64 0))), none, []⟩,
     ⟨(some 3), (.move (.const (.int .i64 0))), none, []⟩] false [1])
   (.seq
    (.block 0
      (.seq
       (.reg [
         ⟨(some 8), (.fieldAddr 1 (.tmp 1)), none, []⟩,
         ⟨(some 9), (.load false 1 (.tmp 8)), none, []⟩,
         ⟨(some 10), (.lenS (.tmp 9)), none, []⟩,
         ⟨(some 11), (.bin .gtr (.tmp 10) (.const (.int .i64 120))), none, []⟩,
         ⟨(some 7), (.move (.tmp 11)), none, []⟩] false [1, 7])
       (.cond (.tmp 7)
         (.seq
          (.reg [
            ⟨(some 2), (.move (.const (.int .i64 (-1)))), none, []⟩,
            ⟨(some 3), (.move (.const (.int .i64 6))), none, []⟩] false [2, 3])
          .ret)
         (.seq
          (.reg [
            ⟨(some 13), (.fieldAddr 0 (.tmp 1)), none, []⟩,
            ⟨(some 14), (.load false 1 (.tmp 13)), none, []⟩,
            ⟨(some 15), (.bin .lss (.tmp 14) (.const (.int .i64 1))), none, []⟩,
            ⟨(some 16), (.move (.tmp 15)), none, []⟩,
            ⟨(some 17), (.fieldAddr 0 (.tmp 1)), (some (16, false)), []⟩,
            ⟨(some 18), (.load false 1 (.tmp 17)), (some (16, false)), []⟩,
            ⟨(some 19), (.bin .gtr (.tmp 18) (.const (.int .i64 40))), (some (16, false)), []⟩,
            ⟨(some 20), (.pick (.tmp 16) (.const (.bool true)) (.tmp 19)), none, []⟩,
            ⟨(some 12), (.move (.tmp 20)), none, []⟩] false [1, 12])
          (.cond (.tmp 12)
            (.seq
             (.reg [
               ⟨(some 2), (.move (.const (.int .i64 (-1)))), none, []⟩,
               ⟨(some 3), (.move (.const (.int .i64 1))), none, []⟩] false [2, 3])
             .ret)
            .skip)))))
    (.seq
     (.seq
      (.reg [
        ⟨(some 21), (.fieldAddr 1 (.tmp 1)), none, []⟩,
        ⟨(some 22), (.load false 1 (.tmp 21)), none, []⟩,
        ⟨(some 23), (.lenS (.tmp 22)), none, []⟩,
        ⟨(some 24), (.move (.const (.int .i64 0))), none, []⟩] false [1, 22, 23, 24])
      (.block 1
        (.loop
          (.seq
           (.reg [
             ⟨(some 25), (.bin .lss (.tmp 24) (.tmp 23)), none, []⟩] false [1, 22, 23, 24, 25])
           (.seq
            (.cond (.tmp 25)
              .skip
              (.exit 1))
            (.seq
             (.block 2
               (.seq
                (.reg [
                  ⟨(some 26), (.move (.tmp 24)), none, []⟩,
                  ⟨(some 27), (.indexAddrS 4 (.tmp 22) (.tmp 24)), none, []⟩,
                  ⟨(some 28), (.load true 4 (.tmp 27)), none, []⟩,
                  ⟨(some 5), (.alloc [(.sc (.int .i64 0)), (.sc (.int .i64 0)), (.sc (.int .i64 0)), (.sc (.int .i64 0))]), none, []⟩,
                  ⟨(some 4), (.move (.tmp 26)), none, []⟩,
                  ⟨none, (.store 4 (.tmp 5) (.tmp 28)), none, []⟩] false [1, 4, 5, 22, 23, 24])
                (.seq
                 (.reg [
                   ⟨(some 29), (.load true 2 (.tmp 1)), none, []⟩,
                   ⟨(some 30), (.load true 4 (.tmp 5)), none, []⟩,
                   ⟨(some 31), (.callF 70 [(.tmp 29), (.tmp 30)]), none, []⟩,
                   ⟨(some 6), (.move (.tmp 31)), none, []⟩] false [1, 4, 6, 22, 23, 24])
                 (.seq
                  (.reg [
                    ⟨(some 32), (.move (.tmp 6)), none, []⟩,
                    ⟨(some 33), (.bin .neq (.tmp 32) (.const (.int .i64 0))), none, []⟩] false [1, 4, 6, 22, 23, 24, 33])
                  (.cond (.tmp 33)
                    (.seq
                     (.reg [
                       ⟨(some 34), (.move (.tmp 4)), none, []⟩,
                       ⟨(some 35), (.move (.tmp 6)), none, []⟩,
                       ⟨(some 2), (.move (.tmp 34)), none, []⟩,
                       ⟨(some 3), (.move (.tmp 35)), none, []⟩] false [2, 3])
                     .ret)
                    .skip)))))
             (.reg [
               ⟨(some 36), (.bin .add (.tmp 24) (.const (.int .i64 1))), none, []⟩,
               ⟨(some 24), (.move (.tmp 36)), none, []⟩] false [1, 22, 23, 24])))))))
     (.seq
      (.reg [
        ⟨(some 2), (.move (.const (.int .i64 (-1)))), none, []⟩,
        ⟨(some 3), (.move (.const (.int .i64 0))), none, []⟩] false [2, 3])
      .ret))))
-- simp set: ac53
theorem isF53 : IsFunc Try.prog 53 1 ac53 [.tmp 2, .tmp 3] := isFunc_of _ [(0, [1]), (1, [1, 7]), (2, [2, 3]), (3, [1, 12]), (4, [2, 3]), (5, [1, 22, 23, 24]), (6, [1, 22, 23, 24, 25]), (7, [1, 4, 5, 22, 23, 24]), (8, [1, 4, 6, 22, 23, 24]), (9, [1, 4, 6, 22, 23, 24, 33]), (10, [2, 3]), (11, [1, 22, 23, 24]), (12, [2, 3])] Try.func53 (by kernel_rfl)
/-- (waymark/heap.pair).ahead; loop heads: [] -/
def ac67 : ACode :=
  (.seq
   (.reg [
     ⟨(some 2), (.box (.tmp 0)), none, []⟩,
     ⟨(some 3), (.box (.tmp 1)), none, []⟩,
     ⟨(some 4), (.move (.const (.bool false))), none, []⟩] false [2, 3])
   (.seq
    (.reg [
      ⟨(some 5), (.fieldAddr 0 (.tmp 2)), none, []⟩,
      ⟨(some 6), (.load false 1 (.tmp 5)), none, []⟩,
      ⟨(some 7), (.fieldAddr 0 (.tmp 3)), none, []⟩,
      ⟨(some 8), (.load false 1 (.tmp 7)), none, []⟩,
      ⟨(some 9), (.bin .lss (.tmp 6) (.tmp 8)), none, []⟩,
      ⟨(some 10), (.move (.tmp 9)), none, []⟩,
      ⟨(some 11), (.fieldAddr 0 (.tmp 2)), (some (10, false)), []⟩,
      ⟨(some 12), (.load false 1 (.tmp 11)), (some (10, false)), []⟩,
      ⟨(some 13), (.fieldAddr 0 (.tmp 3)), (some (10, false)), []⟩,
      ⟨(some 14), (.load false 1 (.tmp 13)), (some (10, false)), []⟩,
      ⟨(some 15), (.bin .eql (.tmp 12) (.tmp 14)), (some (10, false)), []⟩,
      ⟨(some 16), (.move (.tmp 15)), (some (10, false)), []⟩,
      ⟨(some 17), (.fieldAddr 1 (.tmp 2)), (some (16, true)), []⟩,
      ⟨(some 18), (.load false 1 (.tmp 17)), (some (16, true)), []⟩,
      ⟨(some 19), (.fieldAddr 1 (.tmp 3)), (some (16, true)), []⟩,
      ⟨(some 20), (.load false 1 (.tmp 19)), (some (16, true)), []⟩,
      ⟨(some 21), (.bin .lss (.tmp 18) (.tmp 20)), (some (16, true)), []⟩,
      ⟨(some 22), (.pick (.tmp 16) (.tmp 21) (.const (.bool false))), (some (10, false)), []⟩,
      ⟨(some 23), (.pick (.tmp 10) (.const (.bool true)) (.tmp 22)), none, []⟩,
      ⟨(some 4), (.move (.tmp 23)), none, []⟩] false [4])
    .ret))
-- simp set: ac67
theorem isF67 : IsFunc Try.prog 67 2 ac67 [.tmp 4] := isFunc_of _ [(0, [2, 3]), (1, [4])] Try.func67 (by kernel_rfl)
/-- (*waymark/heap.Heap).Len; loop heads: [] -/
def ac68 : ACode :=
  (.seq
   (.reg [
     ⟨(some 2), (.move (.const (.int .i64 0))), none, []⟩] false [0])
   (.seq
    (.seq
     (.reg [
       ⟨(some 3), (.move (.tmp 0)), none, []⟩,
       ⟨(some 4), (.eqPtr false (.tmp 3) (.const (.pointer none))), none, []⟩] false [0, 4])
     (.cond (.tmp 4)
       (.seq
        (.reg [
          ⟨(some 2), (.move (.const (.int .i64 0))), none, []⟩] false [2])
        .ret)
       .skip))
    (.seq
     (.reg [
       ⟨(some 5), (.move (.tmp 0)), none, []⟩,
       ⟨(some 6), (.nilCheck (.tmp 5)), none, []⟩,
       ⟨(some 7), (.fieldAddr 0 (.tmp 6)), none, []⟩,
       ⟨(some 8), (.load false 1 (.tmp 7)), none, []⟩,
       ⟨(some 9), (.lenS (.tmp 8)), none, []⟩,
       ⟨(some 2), (.move (.tmp 9)), none, []⟩] false [2])
     .ret)))
-- simp set: ac68
theorem isF68 : IsFunc Try.prog 68 1 ac68 [.tmp 2] := isFunc_of _ [(0, [0]), (1, [0, 4]), (2, [2]), (3, [2])] Try.func68 (by kernel_rfl)
/-- (*waymark/heap.Heap).least; loop heads: [[0, 1, 5, 6]] -/
def op69_27 : List AOper := [
    ⟨(some 27), (.move (.tmp 0)), none, []⟩,
    ⟨(some 28), (.nilCheck (.tmp 27)), none, [0]⟩,
    ⟨(some 29), (.fieldAddr 0 (.tmp 28)), none, [1]⟩,
    ⟨(some 30), (.load false 1 (.tmp 29)), none, [2]⟩,
    ⟨(some 31), (.move (.tmp 6)), none, []⟩,
    ⟨(some 32), (.indexAddrS 2 (.tmp 30) (.tmp 31)), none, [3, 4]⟩,
    ⟨(some 33), (.load true 2 (.tmp 32)), none, [5]⟩,
    ⟨(some 34), (.move (.tmp 0)), none, []⟩,
    ⟨(some 35), (.nilCheck (.tmp 34)), none, [7]⟩,
    ⟨(some 36), (.fieldAddr 0 (.tmp 35)), none, [8]⟩,
    ⟨(some 37), (.load false 1 (.tmp 36)), none, [9]⟩,
    ⟨(some 38), (.move (.tmp 5)), none, []⟩,
    ⟨(some 39), (.indexAddrS 2 (.tmp 37) (.tmp 38)), none, [10, 11]⟩,
    ⟨(some 40), (.load true 2 (.tmp 39)), none, [12]⟩,
    ⟨(some 41), (.callF 67 [(.tmp 33), (.tmp 40)]), none, [6, 13]⟩]
@[go_sem ↓] theorem op69_27_run {K : AExit → Fr → Store → Prop} {fr : Fr} {σ : Store} : wp Try.prog (.reg op69_27 true [0, 1, 5, 6, 41]) K fr σ = wpOpsD Try.prog (Kreg [0, 1, 5, 6, 41] K) op69_27 (Fr.get fr) σ := wp_draw (by kernel_rfl)
def ac69 : ACode :=
  (.seq
   (.reg [
     ⟨(some 4), (.move (.const (.int .i64 0))), none, []⟩] false [0, 1])
   (.seq
    (.reg [
      ⟨(some 7), (.move (.tmp 1)), none, []⟩,
      ⟨(some 5), (.move (.tmp 7)), none, []⟩] false [0, 1, 5])
    (.seq
     (.seq
      (.reg [
        ⟨(some 8), (.move (.tmp 1)), none, []⟩,
        ⟨(some 9), (.bin .mul (.const (.int .i64 2)) (.tmp 8)), none, []⟩,
        ⟨(some 10), (.bin .add (.tmp 9) (.const (.int .i64 1))), none, []⟩,
        ⟨(some 6), (.move (.tmp 10)), none, []⟩] false [0, 1, 5, 6])
      (.block 0
        (.loop
          (.seq
           (.seq
            (.reg [
              ⟨(some 11), (.move (.tmp 6)), none, []⟩,
              ⟨(some 12), (.move (.tmp 1)), none, []⟩,
              ⟨(some 13), (.bin .mul (.const (.int .i64 2)) (.tmp 12)), none, []⟩,
              ⟨(some 14), (.bin .add (.tmp 13) (.const (.int .i64 2))), none, []⟩,
              ⟨(some 15), (.bin .leq (.tmp 11) (.tmp 14)), none, []⟩,
              ⟨(some 16), (.move (.tmp 15)), none, []⟩,
              ⟨(some 17), (.move (.tmp 6)), (some (16, true)), []⟩,
              ⟨(some 18), (.move (.tmp 0)), (some (16, true)), []⟩,
              ⟨(some 19), (.nilCheck (.tmp 18)), (some (16, true)), []⟩,
              ⟨(some 20), (.fieldAddr 0 (.tmp 19)), (some (16, true)), []⟩,
              ⟨(some 21), (.load false 1 (.tmp 20)), (some (16, true)), []⟩,
              ⟨(some 22), (.lenS (.tmp 21)), (some (16, true)), []⟩,
              ⟨(some 23), (.bin .lss (.tmp 17) (.tmp 22)), (some (16, true)), []⟩,
              ⟨(some 24), (.pick (.tmp 16) (.tmp 23) (.const (.bool false))), none, []⟩] false [0, 1, 5, 6, 24])
            (.cond (.tmp 24)
              .skip
              (.exit 0)))
           (.seq
            (.block 1
              (.seq
               (.reg op69_27 true [0, 1, 5, 6, 41])
               (.cond (.tmp 41)
                 (.reg [
                   ⟨(some 42), (.move (.tmp 6)), none, []⟩,
                   ⟨(some 5), (.move (.tmp 42)), none, []⟩] false [0, 1, 5, 6])
                 .skip)))
            (.reg [
              ⟨(some 25), (.move (.tmp 6)), none, []⟩,
              ⟨(some 26), (.bin .add (.tmp 25) (.const (.int .i64 1))), none, []⟩,
              ⟨(some 6), (.move (.tmp 26)), none, []⟩] false [0, 1, 5, 6]))))))
     (.seq
      (.reg [
        ⟨(some 43), (.move (.tmp 5)), none, []⟩,
        ⟨(some 4), (.move (.tmp 43)), none, []⟩] false [4])
      .ret))))
-- simp set: ac69, op69_27
theorem isF69 : IsFunc Try.prog 69 2 ac69 [.tmp 4] := isFunc_of _ [(0, [0, 1]), (1, [0, 1, 5]), (2, [0, 1, 5, 6]), (3, [0, 1, 5, 6, 24]), (5, [0, 1, 5, 6, 41]), (6, [0, 1, 5, 6]), (4, [0, 1, 5, 6]), (7, [4])] Try.func69 (by kernel_rfl)
/-- waymark/graph.link; loop heads: [] -/
def ac70 : ACode :=
  (.seq
   (.reg [
     ⟨(some 2), (.box (.tmp 0)), none, []⟩,
     ⟨(some 3), (.box (.tmp 1)), none, []⟩,
     ⟨(some 4), (.move (.const (.int .i64 0))), none, []⟩] false [2, 3])
   (.seq
    (.block 0
      (.seq
       (.reg [
         ⟨(some 6), (.load true 2 (.tmp 2)), none, []⟩,
         ⟨(some 7), (.fieldAddr 0 (.tmp 3)), none, []⟩,
         ⟨(some 8), (.load false 1 (.tmp 7)), none, []⟩,
         ⟨(some 9), (.callF 26 [(.tmp 6), (.tmp 8)]), none, []⟩,
         ⟨(some 10), (.un .not (.tmp 9)), none, []⟩,
         ⟨(some 11), (.move (.tmp 10)), none, []⟩,
         ⟨(some 12), (.load true 2 (.tmp 2)), (some (11, false)), []⟩,
         ⟨(some 13), (.fieldAddr 1 (.tmp 3)), (some (11, false)), []⟩,
         ⟨(some 14), (.load false 1 (.tmp 13)), (some (11, false)), []⟩,
         ⟨(some 15), (.callF 26 [(.tmp 12), (.tmp 14)]), (some (11, false)), []⟩,
         ⟨(some 16), (.un .not (.tmp 15)), (some (11, false)), []⟩,
         ⟨(some 17), (.pick (.tmp 11) (.const (.bool true)) (.tmp 16)), none, []⟩,
         ⟨(some 18), (.move (.tmp 17)), none, []⟩,
         ⟨(some 19), (.fieldAddr 0 (.tmp 3)), (some (18, false)), []⟩,
         ⟨(some 20), (.load false 1 (.tmp 19)), (some (18, false)), []⟩,
         ⟨(some 21), (.fieldAddr 1 (.tmp 3)), (some (18, false)), []⟩,
         ⟨(some 22), (.load false 1 (.tmp 21)), (some (18, false)), []⟩,
         ⟨(some 23), (.bin .eql (.tmp 20) (.tmp 22)), (some (18, false)), []⟩,
         ⟨(some 24), (.pick (.tmp 18) (.const (.bool true)) (.tmp 23)), none, []⟩,
         ⟨(some 5), (.move (.tmp 24)), none, []⟩] false [3, 5])
       (.cond (.tmp 5)
         (.seq
          (.reg [
            ⟨(some 4), (.move (.const (.int .i64 4))), none, []⟩] false [4])
          .ret)
         (.seq
          (.reg [
            ⟨(some 26), (.fieldAddr 2 (.tmp 3)), none, []⟩,
            ⟨(some 27), (.load false 1 (.tmp 26)), none, []⟩,
            ⟨(some 28), (.bin .lss (.tmp 27) (.const (.int .i64 1))), none, []⟩,
            ⟨(some 29), (.move (.tmp 28)), none, []⟩,
            ⟨(some 30), (.fieldAddr 2 (.tmp 3)), (some (29, false)), []⟩,
            ⟨(some 31), (.load false 1 (.tmp 30)), (some (29, false)), []⟩,
            ⟨(some 32), (.bin .gtr (.tmp 31) (.const (.int .i64 16777216))), (some (29, false)), []⟩,
            ⟨(some 33), (.pick (.tmp 29) (.const (.bool true)) (.tmp 32)), none, []⟩,
            ⟨(some 34), (.move (.tmp 33)), none, []⟩,
            ⟨(some 35), (.fieldAddr 3 (.tmp 3)), (some (34, false)), []⟩,
            ⟨(some 36), (.load false 1 (.tmp 35)), (some (34, false)), []⟩,
            ⟨(some 37), (.bin .lss (.tmp 36) (.const (.int .i64 0))), (some (34, false)), []⟩,
            ⟨(some 38), (.pick (.tmp 34) (.const (.bool true)) (.tmp 37)), none, []⟩,
            ⟨(some 39), (.move (.tmp 38)), none, []⟩,
            ⟨(some 40), (.fieldAddr 3 (.tmp 3)), (some (39, false)), []⟩,
            ⟨(some 41), (.load false 1 (.tmp 40)), (some (39, false)), []⟩,
            ⟨(some 42), (.bin .gtr (.tmp 41) (.const (.int .i64 62))), (some (39, false)), []⟩,
            ⟨(some 43), (.pick (.tmp 39) (.const (.bool true)) (.tmp 42)), none, []⟩,
            ⟨(some 25), (.move (.tmp 43)), none, []⟩] false [25])
          (.cond (.tmp 25)
            (.seq
             (.reg [
               ⟨(some 4), (.move (.const (.int .i64 1))), none, []⟩] false [4])
             .ret)
            .skip)))))
    (.seq
     (.reg [
       ⟨(some 4), (.move (.const (.int .i64 0))), none, []⟩] false [4])
     .ret)))
-- simp set: ac70
theorem isF70 : IsFunc Try.prog 70 2 ac70 [.tmp 4] := isFunc_of _ [(0, [2, 3]), (1, [3, 5]), (2, [4]), (3, [25]), (4, [4]), (5, [4])] Try.func70 (by kernel_rfl)
end Go.Proofs

/-
  DERIVED: THE SHELF's CONTRACTS AT THIS DUMP, IN PLAIN WORDS (tools/lay-plain.mjs out of 'WmShelf0.lean', which tools/lay-shelf.mjs wrote): THE SAME DECLARATIONS UNDER THE SAME NAMES: 'import', 'namespace', 'open', 'def', 'theorem' AND NOTHING ELSE: no command of the shelf's: FOR A HAND-IN. Each laying: the table of numbers ('.._ren') and one theorem, a field a fact of the dump's own or the kernel's comparison; each contract: ONE APPLICATION.
-/
namespace Go.Proofs
open Go.Shelf
def Try.lays189_ren : Go.Shelf.Ren := ⟨fun | 189 => 23 | 125 => 32 | 257 => 31 | 128 => 49 | 129 => 50 | 294 => 40 | 295 => 41 | 296 => 42 | 297 => 43 | 298 => 44 | 299 => 45 | 216 => 46 | 300 => 47 | 301 => 48 | 328 => 62 | 329 => 63 | 330 => 64 | 331 => 65 | 332 => 66 | 215 => 39 | 343 => 74 | n => n, fun | 28 => 33 | 3 => 3 | 46 => 59 | 0 => 0 | 51 => 73 | 53 => 75 | 4 => 4 | 183 => 66 | 182 => 65 | 131 => 70 | 5 => 5 | 9 => 9 | 218 => 90 | 222 => 94 | 228 => 104 | 229 => 40 | n => n, fun | n => n⟩
theorem Try.lays189 : Go.Proofs.Lays.n189 Try.prog Try.lays189_ren := {
  mixed := by kernel_rfl
  f125 := Try.func32.trans (congrArg some (by kernel_rfl))
  f128 := Try.func49.trans (congrArg some (by kernel_rfl))
  f129 := Try.func50.trans (congrArg some (by kernel_rfl))
  f189 := Try.func23.trans (congrArg some (by kernel_rfl))
  f215 := Try.func39.trans (congrArg some (by kernel_rfl))
  f216 := Try.func46.trans (congrArg some (by kernel_rfl))
  f257 := Try.func31.trans (congrArg some (by kernel_rfl))
  f294 := Try.func40.trans (congrArg some (by kernel_rfl))
  f295 := Try.func41.trans (congrArg some (by kernel_rfl))
  f296 := Try.func42.trans (congrArg some (by kernel_rfl))
  f297 := Try.func43.trans (congrArg some (by kernel_rfl))
  f298 := Try.func44.trans (congrArg some (by kernel_rfl))
  f299 := Try.func45.trans (congrArg some (by kernel_rfl))
  f300 := Try.func47.trans (congrArg some (by kernel_rfl))
  f301 := Try.func48.trans (congrArg some (by kernel_rfl))
  f328 := Try.func62.trans (congrArg some (by kernel_rfl))
  f329 := Try.func63.trans (congrArg some (by kernel_rfl))
  f330 := Try.func64.trans (congrArg some (by kernel_rfl))
  f331 := Try.func65.trans (congrArg some (by kernel_rfl))
  f332 := Try.func66.trans (congrArg some (by kernel_rfl))
  f343 := Try.func74.trans (congrArg some (by kernel_rfl))
  t0 := Try.underlying0
  a0 := Try.isAgg0
  z0 := Try.sizeOf0
  v0 := Try.zeroValue0
  t3 := Try.underlying3
  a3 := Try.isAgg3
  z3 := Try.sizeOf3
  v3 := Try.zeroValue3
  t4 := Try.underlying4
  a4 := Try.isAgg4
  z4 := Try.sizeOf4
  v4 := Try.zeroValue4
  t5 := Try.underlying5
  a5 := Try.isAgg5
  z5 := Try.sizeOf5
  v5 := Try.zeroValue5
  t9 := Try.underlying9
  a9 := Try.isAgg9
  z9 := Try.sizeOf9
  v9 := Try.zeroValue9
  t28 := Try.underlying33
  a28 := Try.isAgg33
  z28 := Try.sizeOf33
  v28 := Try.zeroValue33
  t46 := Try.underlying59
  a46 := Try.isAgg59
  z46 := Try.sizeOf59
  v46 := Try.zeroValue59
  t51 := Try.underlying73
  a51 := Try.isAgg73
  z51 := Try.sizeOf73
  v51 := Try.zeroValue73
  t53 := Try.underlying75
  a53 := Try.isAgg75
  z53 := Try.sizeOf75
  v53 := Try.zeroValue75
  t131 := Try.underlying70
  a131 := Try.isAgg70
  z131 := Try.sizeOf70
  v131 := Try.zeroValue70
  t182 := Try.underlying65
  a182 := Try.isAgg65
  z182 := Try.sizeOf65
  v182 := Try.zeroValue65
  t183 := Try.underlying66
  a183 := Try.isAgg66
  z183 := Try.sizeOf66
  v183 := Try.zeroValue66
  t218 := Try.underlying90
  a218 := Try.isAgg90
  z218 := Try.sizeOf90
  v218 := Try.zeroValue90
  t222 := Try.underlying94
  a222 := Try.isAgg94
  z222 := Try.sizeOf94
  v222 := Try.zeroValue94
  t228 := Try.underlying104
  a228 := Try.isAgg104
  z228 := Try.sizeOf104
  v228 := Try.zeroValue104
  t229 := Try.underlying40
  a229 := Try.isAgg40
  z229 := Try.sizeOf40
  v229 := Try.zeroValue40 }
open Go.Sort Go.RowKit in
theorem Try.slices_Sort_int (blk off cap : Nat) (zs : List Int) (w : World) (hH : Holds (Value.int .i64) w blk off zs.toArray) (hblk : blk < w.heap.size) (hsz : zs.length < 4611686018427387904) :
    Calls Try.prog 23 #[.slice (some ⟨blk, off, none⟩) zs.length cap] w fun e w' =>
      e = .returned (.tuple #[]) ∧ ∃ n os, w' = grow (putRow (Value.int .i64) (Sort.ahead w n) blk off (zs.mergeSort fun x y => decide (x ≤ y)).toArray) os := Any.slices_Sort_int Try.lays189 blk off cap zs w hH hblk hsz
open Go.RowKit Go.Sort in
/-- .. and plain. (LAID: no walk: one application.) -/
theorem Try.slices_Sort_int_none (p : Option Addr) (cap : Nat) (w : World) :
    Calls Try.prog 23 #[.slice p 0 cap] w fun e w' => e = .returned (.tuple #[]) ∧ w' = w := Any.slices_Sort_int_none Try.lays189 p cap w
def Try.laysSlF6_f28_ren : Go.Shelf.Ren := ⟨fun | 6 => 28 | 15 => 32 | 14 => 38 | 28 => 49 | 29 => 50 | 20 => 54 | 21 => 55 | 22 => 56 | 23 => 57 | 24 => 58 | 25 => 59 | 26 => 60 | 27 => 61 | 46 => 71 | 47 => 63 | 48 => 64 | 49 => 72 | 50 => 73 | 57 => 75 | n => n, fun | 22 => 33 | 24 => 3 | 25 => 56 | 3 => 3 | 39 => 59 | 0 => 0 | 53 => 73 | 55 => 75 | 4 => 4 | 46 => 66 | 45 => 65 | 50 => 70 | 5 => 5 | 9 => 9 | 66 => 90 | 70 => 94 | 76 => 104 | 77 => 40 | n => n, fun | n => n⟩
theorem Try.laysSlF6_f28 : Go.Proofs.SlLaysF.n6 Try.prog Try.laysSlF6_f28_ren := {
  mixed := by kernel_rfl
  f6 := ⟨Try.f28.name, by decide, Try.func28.trans (congrArg some (by kernel_rfl))⟩
  f14 := ⟨Try.f38.name, by decide, Try.func38.trans (congrArg some (by kernel_rfl))⟩
  f15 := Try.func32.trans (congrArg some (by kernel_rfl))
  f20 := ⟨Try.f54.name, by decide, Try.func54.trans (congrArg some (by kernel_rfl))⟩
  f21 := ⟨Try.f55.name, by decide, Try.func55.trans (congrArg some (by kernel_rfl))⟩
  f22 := ⟨Try.f56.name, by decide, Try.func56.trans (congrArg some (by kernel_rfl))⟩
  f23 := ⟨Try.f57.name, by decide, Try.func57.trans (congrArg some (by kernel_rfl))⟩
  f24 := ⟨Try.f58.name, by decide, Try.func58.trans (congrArg some (by kernel_rfl))⟩
  f25 := ⟨Try.f59.name, by decide, Try.func59.trans (congrArg some (by kernel_rfl))⟩
  f26 := ⟨Try.f60.name, by decide, Try.func60.trans (congrArg some (by kernel_rfl))⟩
  f27 := ⟨Try.f61.name, by decide, Try.func61.trans (congrArg some (by kernel_rfl))⟩
  f28 := Try.func49.trans (congrArg some (by kernel_rfl))
  f29 := Try.func50.trans (congrArg some (by kernel_rfl))
  f46 := ⟨Try.f71.name, by decide, Try.func71.trans (congrArg some (by kernel_rfl))⟩
  f47 := Try.func63.trans (congrArg some (by kernel_rfl))
  f48 := Try.func64.trans (congrArg some (by kernel_rfl))
  f49 := ⟨Try.f72.name, by decide, Try.func72.trans (congrArg some (by kernel_rfl))⟩
  f50 := ⟨Try.f73.name, by decide, Try.func73.trans (congrArg some (by kernel_rfl))⟩
  f57 := ⟨Try.f75.name, by decide, Try.func75.trans (congrArg some (by kernel_rfl))⟩
  t0 := Try.underlying0
  a0 := Try.isAgg0
  z0 := Try.sizeOf0
  v0 := Try.zeroValue0
  t3 := Try.underlying3
  a3 := Try.isAgg3
  z3 := Try.sizeOf3
  v3 := Try.zeroValue3
  t4 := Try.underlying4
  a4 := Try.isAgg4
  z4 := Try.sizeOf4
  v4 := Try.zeroValue4
  t5 := Try.underlying5
  a5 := Try.isAgg5
  z5 := Try.sizeOf5
  v5 := Try.zeroValue5
  t9 := Try.underlying9
  a9 := Try.isAgg9
  z9 := Try.sizeOf9
  v9 := Try.zeroValue9
  t22 := Try.underlying33
  a22 := Try.isAgg33
  z22 := Try.sizeOf33
  v22 := Try.zeroValue33
  a24 := Try.isAgg3
  z24 := Try.sizeOf3
  t25 := Try.underlying56
  a25 := Try.isAgg56
  z25 := Try.sizeOf56
  v25 := Try.zeroValue56
  t39 := Try.underlying59
  a39 := Try.isAgg59
  z39 := Try.sizeOf59
  v39 := Try.zeroValue59
  t45 := Try.underlying65
  a45 := Try.isAgg65
  z45 := Try.sizeOf65
  v45 := Try.zeroValue65
  t46 := Try.underlying66
  a46 := Try.isAgg66
  z46 := Try.sizeOf66
  v46 := Try.zeroValue66
  t50 := Try.underlying70
  a50 := Try.isAgg70
  z50 := Try.sizeOf70
  v50 := Try.zeroValue70
  t53 := Try.underlying73
  a53 := Try.isAgg73
  z53 := Try.sizeOf73
  v53 := Try.zeroValue73
  t55 := Try.underlying75
  a55 := Try.isAgg75
  z55 := Try.sizeOf75
  v55 := Try.zeroValue75
  t66 := Try.underlying90
  a66 := Try.isAgg90
  z66 := Try.sizeOf90
  v66 := Try.zeroValue90
  t70 := Try.underlying94
  a70 := Try.isAgg94
  z70 := Try.sizeOf94
  v70 := Try.zeroValue94
  t76 := Try.underlying104
  a76 := Try.isAgg104
  z76 := Try.sizeOf104
  v76 := Try.zeroValue104
  t77 := Try.underlying40
  a77 := Try.isAgg40
  z77 := Try.sizeOf40
  v77 := Try.zeroValue40 }
open Go.RowKit Go.Lib Go.Sort in
/-- **slices.SortFunc: WHAT THE ROW HOLDS, TO THE ELEMENT.** (LAID AT THE INSTANCE 'slices.SortFunc[[]int,int]': no walk: one application.) -/
theorem Try.slices_SortFunc_eq {α : Type} [Inhabited α] (enc : α → Value) (h1 : OneCell enc) (cf : α → α → Int) (hO : SWO (ltOf cf)) (g : Nat) (cb : Array Value) (blk off cap : Nat) (d : Array α) (w : World) (eg : ∀ args w, (callFunc g args).run Try.prog w = .ok (.enter g args) w) (hcmp : CmpLays1 Try.prog g cb enc cf blk off d.size w) (hH : Holds enc w blk off d) (hblk : blk < w.heap.size) (hsz : d.size < 4611686018427387904) :
    Calls Try.prog 28 #[.slice (some ⟨blk, off, none⟩) d.size cap, .func (.func g) #[] cb] w fun e w' =>
      e = .returned (.tuple #[]) ∧ ∃ n os, w' = sortWorld enc w blk off n (pdq (ltOf cf) d 0 d.size (Lib.bitLen d.size) true true) os := Any.slices_SortFunc_eq Try.laysSlF6_f28 enc h1 cf hO g cb blk off cap d w eg hcmp hH hblk hsz
def Try.laysSlF06_f28_ren : Go.Shelf.Ren := ⟨fun | 6 => 28 | 15 => 32 | 14 => 38 | 28 => 49 | 29 => 50 | 20 => 54 | 21 => 55 | 22 => 56 | 23 => 57 | 24 => 58 | 25 => 59 | 26 => 60 | 27 => 61 | 46 => 71 | 47 => 63 | 48 => 64 | 49 => 72 | 50 => 73 | 57 => 75 | n => n, fun | 22 => 33 | 24 => 3 | 25 => 56 | 3 => 3 | 39 => 59 | 0 => 0 | 53 => 73 | 55 => 75 | 4 => 4 | 46 => 66 | 45 => 65 | 50 => 70 | 5 => 5 | 9 => 9 | 66 => 90 | 70 => 94 | 76 => 104 | 77 => 40 | n => n, fun | n => n⟩
theorem Try.laysSlF06_f28 : Go.Proofs.SlLaysF0.n6 Try.prog Try.laysSlF06_f28_ren := {
  mixed := by kernel_rfl
  f6 := ⟨Try.f28.name, by decide, Try.func28.trans (congrArg some (by kernel_rfl))⟩
  f14 := ⟨Try.f38.name, by decide, Try.func38.trans (congrArg some (by kernel_rfl))⟩
  f15 := Try.func32.trans (congrArg some (by kernel_rfl))
  f20 := ⟨Try.f54.name, by decide, Try.func54.trans (congrArg some (by kernel_rfl))⟩
  f21 := ⟨Try.f55.name, by decide, Try.func55.trans (congrArg some (by kernel_rfl))⟩
  f22 := ⟨Try.f56.name, by decide, Try.func56.trans (congrArg some (by kernel_rfl))⟩
  f23 := ⟨Try.f57.name, by decide, Try.func57.trans (congrArg some (by kernel_rfl))⟩
  f24 := ⟨Try.f58.name, by decide, Try.func58.trans (congrArg some (by kernel_rfl))⟩
  f25 := ⟨Try.f59.name, by decide, Try.func59.trans (congrArg some (by kernel_rfl))⟩
  f26 := ⟨Try.f60.name, by decide, Try.func60.trans (congrArg some (by kernel_rfl))⟩
  f27 := ⟨Try.f61.name, by decide, Try.func61.trans (congrArg some (by kernel_rfl))⟩
  f28 := Try.func49.trans (congrArg some (by kernel_rfl))
  f29 := Try.func50.trans (congrArg some (by kernel_rfl))
  f46 := ⟨Try.f71.name, by decide, Try.func71.trans (congrArg some (by kernel_rfl))⟩
  f47 := Try.func63.trans (congrArg some (by kernel_rfl))
  f48 := Try.func64.trans (congrArg some (by kernel_rfl))
  f49 := ⟨Try.f72.name, by decide, Try.func72.trans (congrArg some (by kernel_rfl))⟩
  f50 := ⟨Try.f73.name, by decide, Try.func73.trans (congrArg some (by kernel_rfl))⟩
  f57 := ⟨Try.f75.name, by decide, Try.func75.trans (congrArg some (by kernel_rfl))⟩
  t0 := Try.underlying0
  a0 := Try.isAgg0
  z0 := Try.sizeOf0
  v0 := Try.zeroValue0
  t3 := Try.underlying3
  a3 := Try.isAgg3
  z3 := Try.sizeOf3
  v3 := Try.zeroValue3
  t4 := Try.underlying4
  a4 := Try.isAgg4
  z4 := Try.sizeOf4
  v4 := Try.zeroValue4
  t5 := Try.underlying5
  a5 := Try.isAgg5
  z5 := Try.sizeOf5
  v5 := Try.zeroValue5
  t9 := Try.underlying9
  a9 := Try.isAgg9
  z9 := Try.sizeOf9
  v9 := Try.zeroValue9
  t22 := Try.underlying33
  a22 := Try.isAgg33
  z22 := Try.sizeOf33
  v22 := Try.zeroValue33
  t25 := Try.underlying56
  a25 := Try.isAgg56
  z25 := Try.sizeOf56
  v25 := Try.zeroValue56
  t39 := Try.underlying59
  a39 := Try.isAgg59
  z39 := Try.sizeOf59
  v39 := Try.zeroValue59
  t45 := Try.underlying65
  a45 := Try.isAgg65
  z45 := Try.sizeOf65
  v45 := Try.zeroValue65
  t46 := Try.underlying66
  a46 := Try.isAgg66
  z46 := Try.sizeOf66
  v46 := Try.zeroValue66
  t50 := Try.underlying70
  a50 := Try.isAgg70
  z50 := Try.sizeOf70
  v50 := Try.zeroValue70
  t53 := Try.underlying73
  a53 := Try.isAgg73
  z53 := Try.sizeOf73
  v53 := Try.zeroValue73
  t55 := Try.underlying75
  a55 := Try.isAgg75
  z55 := Try.sizeOf75
  v55 := Try.zeroValue75
  t66 := Try.underlying90
  a66 := Try.isAgg90
  z66 := Try.sizeOf90
  v66 := Try.zeroValue90
  t70 := Try.underlying94
  a70 := Try.isAgg94
  z70 := Try.sizeOf94
  v70 := Try.zeroValue94
  t76 := Try.underlying104
  a76 := Try.isAgg104
  z76 := Try.sizeOf104
  v76 := Try.zeroValue104
  t77 := Try.underlying40
  a77 := Try.isAgg40
  z77 := Try.sizeOf40
  v77 := Try.zeroValue40 }
open Go.RowKit Go.Lib Go.Sort in
/-- **slices.SortFunc AT NO ELEMENT, A nil SLICE TOO: nothing turns.** (LAID AT THE INSTANCE 'slices.SortFunc[[]int,int]': no walk: one application.) -/
theorem Try.slices_SortFunc_none {α : Type} [Inhabited α] (p : Option Addr) (cap : Nat) (fv : Value) (w : World) :
    Calls Try.prog 28 #[.slice p 0 cap, fv] w fun e w' => e = .returned (.tuple #[]) ∧ w' = w := AnyF.slices_SortFunc_none Try.laysSlF06_f28 p cap fv w
end Go.Proofs

set_option linter.unusedSimpArgs false
namespace Go.Proofs
open Go.Ab

structure Lk where
  a : Int
  b : Int
  m : Int
  c : Int
def Lk.row (l : Lk) : List AVal := [.sc (.int .i64 l.a), .sc (.int .i64 l.b), .sc (.int .i64 l.m), .sc (.int .i64 l.c)]
structure Gr where
  n : Int
  ls : List Lk
def Gr.val (g : Gr) : AVal := .agg [.sc (.int .i64 g.n), .lst (g.ls.map Lk.row)]

theorem is_ok (n : Int) (ls : AVal) (x : Int) : PGood Try.prog 26 [.agg [.i n, ls], .i x] (.b (decide (0 ≤ x ∧ x < n))) := by
  refine pgood_of_out 1 (good_of_wp isF26 (Nat.le_refl _) ?_)
  unfold ac26
  simp only [go_sem, simprocAttr]
  intro id hid
  simp only [go_sem, simprocAttr]
  refine .intro (fun h => ?_) (fun h => ?_)
  · simp only [go_sem, simprocAttr, h]
    exact out_sc
  · simp only [go_sem, simprocAttr, h]
    exact out_sc

def Gr.ends (g : Gr) (e : Int) : Int × Int × Bool :=
  if e < 0 ∨ (g.ls.length : Int) ≤ e / 2 then (0, 0, false) else match g.ls[(e / 2).toNat]? with
    | some l => if e % 2 = 1 then (l.b, l.a, true) else (l.a, l.b, true)
    | none => (0, 0, false)

theorem ends_ok (g : Gr) (e : Int) (he : e < 9223372036854775808) : PGood Try.prog 22 [g.val, .i e] (.tup [.i (g.ends e).1, .i (g.ends e).2.1, .b (g.ends e).2.2]) := by
  refine pgood_of_out 2 (good_of_wp isF22 (Nat.le_refl _) ?_)
  unfold ac22
  simp only [go_sem, simprocAttr, Gr.val]
  intro id hid
  simp only [go_sem, simprocAttr]
  refine .intro (fun h => ?_) (fun h => ?_)
  · simp only [go_sem, simprocAttr, h]
    have e1 : g.ends e = (0, 0, false) := by unfold Gr.ends; rw [if_pos (.inl h)]
    rw [e1]
    exact out_tup3 out_sc out_sc out_sc
  · have hq : IntKind.i64.wrap (e.tdiv 2) = e / 2 := by
      rw [Int.tdiv_eq_ediv_of_nonneg (by omega)]
      exact wrap_id (by omega) (by omega)
    have hr : e.tmod 2 = e % 2 := Int.tmod_eq_emod_of_nonneg (by omega)
    simp only [go_sem, simprocAttr, h, hq, hr]
    refine .intro (fun h2 => ?_) (fun h2 => ?_)
    · simp only [go_sem, simprocAttr, h, h2]
      have e1 : g.ends e = (0, 0, false) := by unfold Gr.ends; rw [if_pos (.inr h2)]
      rw [e1]
      exact out_tup3 out_sc out_sc out_sc
    · have hlt : (e / 2).toNat < g.ls.length := by omega
      have hx : (g.ls.map Lk.row)[(e / 2).toNat]? = some (g.ls[(e / 2).toNat]).row := by simp [hlt]
      have hn : (0 : Int) ≤ e / 2 := by omega
      have e1 : g.ends e = if e % 2 = 1 then ((g.ls[(e / 2).toNat]).b, (g.ls[(e / 2).toNat]).a, true) else ((g.ls[(e / 2).toNat]).a, (g.ls[(e / 2).toNat]).b, true) := by
        unfold Gr.ends; rw [if_neg (by omega), List.getElem?_eq_getElem hlt]
      generalize g.ls[(e / 2).toNat] = l at *
      simp only [go_sem, simprocAttr, h, h2, hq, hr, hx, hn, Lk.row]
      intro id2 hid2
      simp only [go_sem, simprocAttr, hr]
      refine .intro (fun h3 => ?_) (fun h3 => ?_)
      · simp only [go_sem, simprocAttr, h3, op22_27]
        rw [e1, if_pos h3]
        exact out_tup3 out_sc out_sc out_sc
      · simp only [go_sem, simprocAttr, h3, op22_31]
        rw [e1, if_neg h3]
        exact out_tup3 out_sc out_sc out_sc

end Go.Proofs

set_option linter.unusedSimpArgs false
namespace Go.Proofs
open Go.Ab

def Gr.outN (g : Gr) (x : Int) (k : Nat) : List Int := (List.range k).filterMap fun (e : Nat) => if (g.ends (e : Int)).1 = x then some (e : Int) else none
def Gr.out (g : Gr) (x : Int) : List Int := g.outN x (2 * g.ls.length)
theorem Gr.outN_succ (g : Gr) (x : Int) (k : Nat) : g.outN x (k + 1) = if (g.ends (k : Int)).1 = x then g.outN x k ++ [(k : Int)] else g.outN x k := by
  unfold Gr.outN
  rw [List.range_succ, List.filterMap_append]
  by_cases h : (g.ends (k : Int)).1 = x <;> simp [h]
theorem Gr.outN_len (g : Gr) (x : Int) (k : Nat) : (g.outN x k).length ≤ k := by
  have := List.length_filterMap_le (fun e : Nat => if (g.ends (e : Int)).1 = x then some (e : Int) else none) (List.range k)
  simpa [Gr.outN] using this

theorem out_ok (g : Gr) (x : Int) (hg : g.ls.length ≤ 1000000) : PGood Try.prog 36 [g.val, .i x] (.lst (ints (g.out x))) := by
  refine pgood_of_out 2 (good_of_wp isF36 (Nat.le_refl _) ?_)
  unfold ac36
  simp only [go_sem, simprocAttr, Gr.val]
  intro id hid
  have hw : IntKind.i64.wrap (2 * (g.ls.length : Int)) = 2 * (g.ls.length : Int) := wrap_id (by omega) (by omega)
  simp only [go_sem, simprocAttr, hw]
  refine loop_rule (fun m fr σ => ∃ (i : Nat) (v : AVal), i ≤ 2 * g.ls.length ∧ m = 2 * g.ls.length - i ∧ fr = [(1, .i x), (2, .ptr id 0 0 0), (5, v), (13, .i (2 * g.ls.length)), (14, .i i)] ∧
    σ.get id = some (.row 0 false 2 [[.sc (.int .i64 g.n), .lst (g.ls.map Lk.row)]]) ∧ Acc σ 1 v (ints (g.outN x i)) [id]) (2 * g.ls.length) ⟨0, .nils, by omega, rfl, rfl, by simp, acc_nils (alive_cons (Store.get_set_self _ _ _) alive_nil)⟩ ?_
  rintro m fr σ ⟨i, v, h1, rfl, rfl, h2, h3⟩
  simp only [go_sem, simprocAttr]
  refine .intro (fun h => ?_) (fun h => ?_)
  · simp only [go_sem, simprocAttr, rowAt_of h2]
    refine good_imm (ends_ok g i (by omega)) rfl ?_
    simp only [go_sem, simprocAttr]
    have hw2 : IntKind.i64.wrap ((i : Int) + 1) = ((i + 1 : Nat) : Int) := by rw [wrap_id (by omega) (by omega)]; rfl
    refine .intro (fun h4 => ?_) (fun h4 => ?_)
    · simp only [go_sem, simprocAttr]
      intro id2 hid2
      simp only [go_sem, simprocAttr]
      have hlen := g.outN_len x i
      refine acc_append (h3.fresh hid2 _) (by simp only [ints_len, List.length_cons, List.length_nil]; omega) (by simp only [ints_len, List.length_cons, List.length_nil]; omega) fun v' σ' k1 k2 => ?_
      simp only [go_sem, simprocAttr, hw2]
      refine back_of _ ?_ ⟨i + 1, v', by omega, rfl, rfl, ?_, ?_⟩
      · omega
      · rw [k2 id (by simp), get_fresh hid2 (by rw [h2]; rfl), h2]
      · rw [Gr.outN_succ, if_pos h4, ints_app]
        exact k1.less (by simp)
    · simp only [go_sem, simprocAttr, hw2]
      refine back_of _ ?_ ⟨i + 1, v, by omega, rfl, rfl, h2, ?_⟩
      · omega
      · rw [Gr.outN_succ, if_neg h4]; exact h3
  · simp only [go_sem, simprocAttr]
    have e : i = 2 * g.ls.length := by omega
    subst e
    exact acc_out h3 (ints_sc _)
end Go.Proofs
namespace Go.Proofs
open Go.Ab

theorem sub_out {σ : Store} {m : Nat} {v r r' : AVal} (h : Out m σ v r) (e : r = r') : Out m σ v r' := e ▸ h

def Gr.linkErr (g : Gr) (l : Lk) : Int := if ¬ (0 ≤ l.a ∧ l.a < g.n) ∨ ¬ (0 ≤ l.b ∧ l.b < g.n) ∨ l.a = l.b then 4 else if l.m < 1 ∨ 16777216 < l.m ∨ l.c < 0 ∨ 62 < l.c then 1 else 0

theorem link_ok (g : Gr) (l : Lk) : PGood Try.prog 70 [g.val, .agg l.row] (.i (g.linkErr l)) := by
  refine pgood_of_out 1 (good_of_wp isF70 (Nat.le_refl _) ?_)
  unfold ac70
  simp only [go_sem, simprocAttr, Gr.val, Lk.row]
  intro id hid
  simp only [go_sem, simprocAttr]
  intro id2 hid2
  simp only [go_sem, simprocAttr, rowAt_fresh hid2]
  refine good_imm (is_ok g.n (.lst (g.ls.map Lk.row)) l.a) rfl ?_
  simp only [go_sem, simprocAttr]
  by_cases h1 : 0 ≤ l.a ∧ l.a < g.n
  · simp only [go_sem, simprocAttr, h1, rowAt_fresh hid2]
    refine good_imm (is_ok g.n (.lst (g.ls.map Lk.row)) l.b) rfl ?_
    by_cases h2 : 0 ≤ l.b ∧ l.b < g.n
    · simp only [go_sem, simprocAttr, h2]
      refine .intro (fun h3 => ?_) (fun h3 => ?_)
      · simp only [go_sem, simprocAttr, h3]
        refine sub_out out_sc ?_
        simp [Gr.linkErr, h3]
      · simp only [go_sem, simprocAttr]
        by_cases h4 : l.m < 1
        · simp only [go_sem, simprocAttr, h4]
          refine sub_out out_sc ?_
          simp [Gr.linkErr, h1, h2, h3, h4]
        · simp only [go_sem, simprocAttr, h4]
          by_cases h5 : 16777216 < l.m
          · simp only [go_sem, simprocAttr, h5]
            refine sub_out out_sc ?_
            simp [Gr.linkErr, h1, h2, h3, h4, h5]
          · simp only [go_sem, simprocAttr, h5]
            by_cases h6 : l.c < 0
            · simp only [go_sem, simprocAttr, h6]
              refine sub_out out_sc ?_
              simp [Gr.linkErr, h1, h2, h3, h4, h5, h6]
            · simp only [go_sem, simprocAttr, h6]
              by_cases h7 : 62 < l.c
              · simp only [go_sem, simprocAttr, h7]
                refine sub_out out_sc ?_
                simp [Gr.linkErr, h1, h2, h3, h4, h5, h6, h7]
              · simp only [go_sem, simprocAttr, h7]
                refine sub_out out_sc ?_
                simp [Gr.linkErr, h1, h2, h3, h4, h5, h6, h7]
    · simp only [go_sem, simprocAttr, h2]
      refine sub_out out_sc ?_
      simp only [Gr.linkErr, h1, h2]
      simp
  · simp only [go_sem, simprocAttr, h1]
    refine sub_out out_sc ?_
    simp only [Gr.linkErr, h1]
    simp
end Go.Proofs

set_option linter.unusedSimpArgs false
set_option linter.unusedVariables false
namespace Go.Proofs
open Go.Ab

def Gr.firstBad (g : Gr) : List Lk → Nat → Int × Int
  | [], _ => (-1, 0)
  | l :: r, i => if g.linkErr l = 0 then g.firstBad r (i + 1) else ((i : Int), g.linkErr l)
def Gr.check (g : Gr) : Int × Int := if 120 < g.ls.length then (-1, 6) else if g.n < 1 ∨ 40 < g.n then (-1, 1) else g.firstBad g.ls 0
def Gr.Ok (g : Gr) : Prop := g.ls.length ≤ 120 ∧ 1 ≤ g.n ∧ g.n ≤ 40 ∧ ∀ l ∈ g.ls, g.linkErr l = 0

theorem Gr.firstBad_ok (g : Gr) : ∀ (ls : List Lk) (i : Nat), (g.firstBad ls i).2 = 0 ↔ ∀ l ∈ ls, g.linkErr l = 0
  | [], i => by simp [Gr.firstBad]
  | l :: r, i => by
    unfold Gr.firstBad
    by_cases h : g.linkErr l = 0
    · rw [if_pos h, g.firstBad_ok r (i + 1)]
      simp [h]
    · rw [if_neg h]
      simp [h]
theorem Gr.check_ok (g : Gr) : g.check.2 = 0 ↔ g.Ok := by
  unfold Gr.check Gr.Ok
  by_cases h1 : 120 < g.ls.length
  · rw [if_pos h1]; simp; omega
  · rw [if_neg h1]
    by_cases h2 : g.n < 1 ∨ 40 < g.n
    · rw [if_pos h2]; simp; omega
    · rw [if_neg h2, g.firstBad_ok]
      constructor
      · exact fun h => ⟨by omega, by omega, by omega, h⟩
      · exact fun h => h.2.2.2

theorem check_ok (g : Gr) : PGood Try.prog 53 [g.val] (.tup [.i g.check.1, .i g.check.2]) := by
  refine pgood_of_out 2 (good_of_wp isF53 (Nat.le_refl _) ?_)
  unfold ac53
  simp only [go_sem, simprocAttr, Gr.val]
  intro id hid
  simp only [go_sem, simprocAttr]
  refine .intro (fun h1 => ?_) (fun h1 => ?_)
  · simp only [go_sem, simprocAttr]
    have e : g.check = (-1, 6) := by unfold Gr.check; rw [if_pos (by omega)]
    rw [e]
    exact out_tup2 out_sc out_sc
  simp only [go_sem, simprocAttr]
  by_cases h2 : g.n < 1
  · simp only [go_sem, simprocAttr, h2]
    have e : g.check = (-1, 1) := by unfold Gr.check; rw [if_neg (by omega), if_pos (.inl h2)]
    rw [e]
    exact out_tup2 out_sc out_sc
  simp only [go_sem, simprocAttr, h2]
  refine .intro (fun h3 => ?_) (fun h3 => ?_)
  · simp only [go_sem, simprocAttr]
    have e : g.check = (-1, 1) := by unfold Gr.check; rw [if_neg (by omega), if_pos (.inr h3)]
    rw [e]
    exact out_tup2 out_sc out_sc
  simp only [go_sem, simprocAttr]
  have e0 : g.check = g.firstBad g.ls 0 := by unfold Gr.check; rw [if_neg (by omega), if_neg (by omega)]
  refine loop_rule (fun m fr σ => ∃ (i : Nat), i ≤ g.ls.length ∧ m = g.ls.length - i ∧ fr = [(1, .ptr id 0 0 0), (22, .lst (g.ls.map Lk.row)), (23, .i (g.ls.length)), (24, .i i)] ∧
    σ.get id = some (.row 0 false 2 [[.sc (.int .i64 g.n), .lst (g.ls.map Lk.row)]]) ∧ g.check = g.firstBad (g.ls.drop i) i) g.ls.length ⟨0, by omega, rfl, rfl, by simp, e0⟩ ?_
  rintro m fr σ ⟨i, h4, rfl, rfl, h5, h6⟩
  simp only [go_sem, simprocAttr]
  refine .intro (fun h => ?_) (fun h => ?_)
  · have hlt : i < g.ls.length := by omega
    have hx : (g.ls.map Lk.row)[i]? = some (g.ls[i]).row := by simp [hlt]
    have hn : (0 : Int) ≤ i := by omega
    have hd : g.ls.drop i = g.ls[i] :: g.ls.drop (i + 1) := List.drop_eq_getElem_cons hlt
    rw [hd] at h6
    have hrow : (g.ls[i]).row.length = 4 := rfl
    generalize g.ls[i] = l at *
    simp only [go_sem, simprocAttr, hx, hn, hrow, List.take_length]
    have ht : l.row.take 4 = l.row := rfl
    simp only [go_sem, simprocAttr, ht]
    intro id2 hid2
    simp only [go_sem, simprocAttr, hrow, rowAt_fresh hid2, rowAt_of h5, h5]
    have hr : Ab.rowAt σ id 0 = some (false, 2, [[.sc (.int .i64 g.n), .lst (g.ls.map Lk.row)]]) := by rw [rowAt_of h5]; rfl
    rw [ht]
    refine good_imm (link_ok g l) rfl ?_
    simp only [go_sem, simprocAttr]
    have hw2 : IntKind.i64.wrap ((i : Int) + 1) = ((i + 1 : Nat) : Int) := by rw [wrap_id (by omega) (by omega)]; rfl
    refine .intro (fun h7 => ?_) (fun h7 => ?_)
    · simp only [go_sem, simprocAttr, hw2]
      refine back_of _ ?_ ⟨i + 1, by omega, rfl, rfl, ?_, ?_⟩
      · omega
      · rw [get_fresh hid2 (by rw [h5]; rfl), h5]
      · rw [h6]
        simp only [Gr.firstBad, h7, if_true]
    · simp only [go_sem, simprocAttr]
      rw [h6]
      simp only [Gr.firstBad, h7, if_false]
      exact out_tup2 out_sc out_sc
  · simp only [go_sem, simprocAttr]
    have e : i = g.ls.length := by omega
    subst e
    rw [h6, List.drop_length]
    exact out_tup2 out_sc out_sc

theorem right_ok (g : Gr) : PGood Try.prog 35 [g.val] (.b (decide (g.check.2 = 0))) := by
  refine pgood_of_out 1 (good_of_wp isF35 (Nat.le_refl _) ?_)
  unfold ac35
  simp only [go_sem, simprocAttr, Gr.val]
  intro id hid
  simp only [go_sem, simprocAttr]
  refine good_imm (check_ok g) rfl ?_
  simp only [go_sem, simprocAttr]
  exact out_sc

def isUp (down : List Bool) (e : Int) : Bool := decide ((down.length : Int) ≤ e / 2) || !(down.getD (e / 2).toNat false)
theorem up_ok (down : List Bool) (e : Int) (h0 : 0 ≤ e) (h1 : e < 9223372036854775808) : PGood Try.prog 37 [.lst (bools down), .i e] (.b (isUp down e)) := by
  refine pgood_of_out 1 (good_of_wp isF37 (Nat.le_refl _) ?_)
  unfold ac37
  have hq : IntKind.i64.wrap (e.tdiv 2) = e / 2 := by
    rw [Int.tdiv_eq_ediv_of_nonneg (by omega)]
    exact wrap_id (by omega) (by omega)
  simp only [go_sem, simprocAttr, hq]
  by_cases h : (down.length : Int) ≤ e / 2
  · simp only [go_sem, simprocAttr, h]
    refine sub_out out_sc ?_
    simp [isUp, h]
  · have hlt : (e / 2).toNat < down.length := by omega
    have hx : (bools down)[(e / 2).toNat]? = some [.sc (.bool down[(e / 2).toNat])] := bools_get (List.getElem?_eq_getElem hlt)
    have hn : 0 ≤ e / 2 := by omega
    simp only [go_sem, simprocAttr, h, hq, hx, hn]
    refine sub_out out_sc ?_
    simp [isUp, h, hlt]

theorem ahead_ok (a b c d : Int) : PGood Try.prog 67 [.agg [.i a, .i b], .agg [.i c, .i d]] (.b (decide (a < c ∨ a = c ∧ b < d))) := by
  refine pgood_of_out 1 (good_of_wp isF67 (Nat.le_refl _) ?_)
  unfold ac67
  simp only [go_sem, simprocAttr]
  intro id hid
  simp only [go_sem, simprocAttr]
  intro id2 hid2
  simp only [go_sem, simprocAttr, rowAt_fresh hid2]
  by_cases h1 : a < c
  · simp only [go_sem, simprocAttr, h1]
    refine sub_out out_sc ?_
    simp
  · simp only [go_sem, simprocAttr, h1, rowAt_fresh hid2]
    by_cases h2 : a = c
    · subst h2
      simp only [go_sem, simprocAttr, rowAt_fresh hid2]
      refine sub_out out_sc ?_
      simp
    · simp only [go_sem, simprocAttr, h2]
      refine sub_out out_sc ?_
      simp
end Go.Proofs

set_option linter.unusedSimpArgs false
set_option linter.unusedVariables false
namespace Go.Proofs
open Go.Ab

/-! ### The heap -/
def pairs (l : List (Int × Int)) : List (List AVal) := l.map fun p => [.sc (.int .i64 p.1), .sc (.int .i64 p.2)]
@[go_sem] theorem pairs_len (l : List (Int × Int)) : (pairs l).length = l.length := by simp [pairs]
theorem pairs_get {l : List (Int × Int)} {i : Nat} {p : Int × Int} (h : l[i]? = some p) : (pairs l)[i]? = some [.sc (.int .i64 p.1), .sc (.int .i64 p.2)] := by simp [pairs, h]
theorem pairs_set (l : List (Int × Int)) (i : Nat) (p : Int × Int) : pairs (l.set i p) = (pairs l).set i [.sc (.int .i64 p.1), .sc (.int .i64 p.2)] := by simp [pairs]
theorem pairs_app (l m : List (Int × Int)) : pairs (l ++ m) = pairs l ++ pairs m := by simp [pairs]
@[go_sem] theorem pairs_all (l : List (Int × Int)) : (pairs l).all (·.length == 2) = true := by simp [pairs]
abbrev lt2 (p q : Int × Int) : Prop := p.1 < q.1 ∨ p.1 = q.1 ∧ p.2 < q.2

theorem hlen_ok (l : List (Int × Int)) : PGood Try.prog 68 [.iptr [.lst (pairs l)] 0] (.i l.length) := by
  refine pgood_of_out 1 (good_of_wp isF68 (Nat.le_refl _) ?_)
  unfold ac68
  simp only [go_sem, simprocAttr]
  exact out_sc

def better (l : List (Int × Int)) (b k : Nat) : Nat := if k < l.length ∧ lt2 (l.getD k (0, 0)) (l.getD b (0, 0)) then k else b
def leastOf (l : List (Int × Int)) (i : Nat) : Nat := better l (better l i (2 * i + 1)) (2 * i + 2)
theorem better_lt {l : List (Int × Int)} {b k : Nat} (h : b < l.length) : better l b k < l.length := by
  unfold better
  split
  · rename_i h; exact h.1
  · exact h

theorem better_ge {l : List (Int × Int)} {b k : Nat} (h : ¬ k < l.length) : better l b k = b := by
  unfold better
  rw [if_neg (fun x => h x.1)]

theorem least_ok (l : List (Int × Int)) (i : Nat) (hl : l.length < 1000000000) (hi : i < 1000000000) : PGood Try.prog 69 [.iptr [.lst (pairs l)] 0, .i i] (.i (leastOf l i)) := by
  refine pgood_of_out 1 (good_of_wp isF69 (Nat.le_refl _) ?_)
  unfold ac69
  have w1 : IntKind.i64.wrap (2 * (i : Int)) = 2 * i := wrap_id (by omega) (by omega)
  have w2 : IntKind.i64.wrap (2 * (i : Int) + 1) = 2 * i + 1 := wrap_id (by omega) (by omega)
  have w3 : IntKind.i64.wrap (2 * (i : Int) + 2) = 2 * i + 2 := wrap_id (by omega) (by omega)
  simp only [go_sem, simprocAttr, w1, w2]
  refine loop_rule (fun m fr σ => ∃ (k b : Nat), (k = 2 * i + 1 ∧ b = i ∨ k = 2 * i + 2 ∧ b = better l i (2 * i + 1) ∨ k = 2 * i + 3 ∧ b = leastOf l i) ∧ m = 2 * i + 3 - k ∧ fr = [(0, .iptr [.lst (pairs l)] 0), (1, .i i), (5, .i b), (6, .i k)] ∧ (k ≤ l.length → i < l.length → b < l.length)) 2
    ⟨2 * i + 1, i, .inl ⟨rfl, rfl⟩, by omega, by simp, by omega⟩ ?_
  rintro m fr σ ⟨k, b, hk, rfl, rfl, hb⟩
  have fin : (¬ k ≤ 2 * i + 2 ∨ ¬ k < l.length) → b = leastOf l i := by
    intro h
    rcases hk with ⟨h1, h2⟩ | ⟨h1, h2⟩ | ⟨h1, h2⟩
    · have : ¬ k < l.length := by omega
      rw [h2]; unfold leastOf
      rw [better_ge (by omega), better_ge (by omega)]
    · have : ¬ k < l.length := by omega
      rw [h2]
      exact (better_ge (by omega)).symm
    · exact h2
  simp only [go_sem, simprocAttr, w1, w3]
  by_cases h1 : (k : Int) ≤ 2 * i + 2
  · simp only [go_sem, simprocAttr, h1]
    refine .intro (fun h2 => ?_) (fun h2 => ?_)
    · have hkl : k < l.length := by omega
      have hbl : b < l.length := hb (by omega) (by omega)
      have x1 : (pairs l)[k]? = some [.sc (.int .i64 (l.getD k (0, 0)).1), .sc (.int .i64 (l.getD k (0, 0)).2)] := pairs_get (by simp [hkl])
      have x2 : (pairs l)[b]? = some [.sc (.int .i64 (l.getD b (0, 0)).1), .sc (.int .i64 (l.getD b (0, 0)).2)] := pairs_get (by simp [hbl])
      have n1 : (0 : Int) ≤ k := by omega
      have n2 : (0 : Int) ≤ b := by omega
      have w4 : IntKind.i64.wrap ((k : Int) + 1) = ((k + 1 : Nat) : Int) := by rw [wrap_id (by omega) (by omega)]; rfl
      simp only [go_sem, simprocAttr, op69_27, x1, x2, n1, n2]
      refine goodD_imm (ahead_ok _ _ _ _) rfl ?_
      simp only [go_sem, simprocAttr]
      have step : (k + 1 = 2 * i + 1 ∧ better l b k = i ∨ k + 1 = 2 * i + 2 ∧ better l b k = better l i (2 * i + 1) ∨ k + 1 = 2 * i + 3 ∧ better l b k = leastOf l i) := by
        rcases hk with ⟨h1, h2⟩ | ⟨h1, h2⟩ | ⟨h1, h2⟩
        · refine .inr (.inl ⟨by omega, by rw [h1, h2]⟩)
        · refine .inr (.inr ⟨by omega, by rw [h1, h2]; rfl⟩)
        · omega
      refine .intro (fun h3 => ?_) (fun h3 => ?_)
      · have e : better l b k = k := by unfold better; rw [if_pos ⟨hkl, h3⟩]
        rw [e] at step
        simp only [go_sem, simprocAttr, w4]
        exact back_of _ (by omega) ⟨k + 1, k, step, rfl, rfl, by omega⟩
      · have e : better l b k = b := by unfold better; rw [if_neg (fun h => h3 h.2)]
        rw [e] at step
        simp only [go_sem, simprocAttr, w4]
        exact back_of _ (by omega) ⟨k + 1, b, step, rfl, rfl, by omega⟩
    · simp only [go_sem, simprocAttr]
      rw [fin (.inr (by omega))]
      exact out_sc
  · simp only [go_sem, simprocAttr, h1]
    rw [fin (.inl (by omega))]
    exact out_sc
end Go.Proofs

set_option linter.unusedSimpArgs false
set_option linter.unusedVariables false
namespace Go.Proofs
open Go.Ab

def hg (l : List (Int × Int)) (i : Nat) : Int × Int := l.getD i (0, 0)
def hswap (l : List (Int × Int)) (i j : Nat) : List (Int × Int) := (l.set i (hg l j)).set j (hg l i)
def siftUp : Nat → List (Int × Int) → Nat → List (Int × Int)
  | 0, l, _ => l
  | f + 1, l, i => if i = 0 then l else if lt2 (hg l i) (hg l ((i - 1) / 2)) then siftUp f (hswap l i ((i - 1) / 2)) ((i - 1) / 2) else l
theorem hswap_len (l : List (Int × Int)) (i j : Nat) : (hswap l i j).length = l.length := by simp [hswap]
theorem siftUp_len : ∀ (f : Nat) (l : List (Int × Int)) (i : Nat), (siftUp f l i).length = l.length
  | 0, l, i => rfl
  | f + 1, l, i => by
    unfold siftUp
    split
    · rfl
    · split
      · rw [siftUp_len f, hswap_len]
      · rfl
theorem siftUp_fuel : ∀ (f : Nat) (l : List (Int × Int)) (i : Nat), i < f → siftUp f l i = siftUp (i + 1) l i
  | 0, l, i, h => by omega
  | f + 1, l, i, h => by
    unfold siftUp
    by_cases h0 : i = 0
    · rw [if_pos h0, if_pos h0]
    · rw [if_neg h0, if_neg h0]
      by_cases h1 : lt2 (hg l i) (hg l ((i - 1) / 2))
      · rw [if_pos h1, if_pos h1, siftUp_fuel f _ _ (by omega)]
        by_cases h2 : i = f
        · subst h2
          exact (siftUp_fuel i _ _ (by omega)).symm
        · exact (siftUp_fuel i _ _ (by omega)).symm
      · rw [if_neg h1, if_neg h1]
theorem hg_row {l : List (Int × Int)} {i : Nat} (h : i < l.length) : (pairs l)[i]? = some [.sc (.int .i64 (hg l i).1), .sc (.int .i64 (hg l i).2)] := pairs_get (by simp [hg, h])

/-- The heap's object: a row of one slice. -/
def HeapAt (σ : Store) (hp : Nat) (l : List (Int × Int)) (others : List Nat) : Prop := hp ∉ others ∧ ∃ v, σ.get hp = some (.row 0 false 1 [[v]]) ∧ Acc σ 2 v (pairs l) (hp :: others)

theorem rowAt_get {σ : Store} {id v : Nat} {fz : Bool} {sz : Nat} {xs : List (List AVal)} (h : σ.get id = some (.row v fz sz xs)) : Ab.rowAt σ id v = some (fz, sz, xs) := by rw [rowAt_of h, if_pos rfl]

theorem push_ok (σ : Store) (hp : Nat) (l : List (Int × Int)) (others : List Nat) (k x : Int) (h : HeapAt σ hp l others) (hl : l.length < 1000000000) :
    Ab.Good Try.prog 51 [.ptr hp 0 0 0, .i k, .i x] σ (fun r σ' => HeapAt σ' hp (siftUp (l.length + 1) (l ++ [(k, x)]) l.length) others ∧ ∀ j ∈ others, σ'.get j = σ.get j) := by
  refine good_of_wp isF51 (Nat.le_refl _) ?_
  unfold ac51
  obtain ⟨h0, v, h1, h2⟩ := h
  have r1 := rowAt_get h1
  simp only [go_sem, simprocAttr, r1]
  intro id hid
  have hne : hp ≠ id := fun e => by rw [e, hid] at h1; cases h1
  simp only [go_sem, simprocAttr, r1]
  refine acc_append (h2.fresh hid _) (by simp only [pairs_len, List.length_cons, List.length_nil]; omega) (by simp only [pairs_len, List.length_cons, List.length_nil]; omega) fun v' σ' k1 k2 => ?_
  have g1 : σ'.get hp = some (.row 0 false 1 [[v]]) := by rw [k2 hp (by simp), Store.get_set_ne _ _ hne, h1]
  have r2 := rowAt_get g1
  have hlen : (pairs l ++ [[AVal.i k, AVal.i x]]) = pairs (l ++ [(k, x)]) := by simp [pairs]
  rw [hlen] at k1
  have k3 := (k1.less (o2 := hp :: others) (fun y hy => by simp [hy])).other (id := hp) (by simp) (.row 0 false 1 [[v']])
  have k4 := k1.known
  have k5 := k3.len
  have w1 : IntKind.i64.wrap (((l.length + 1 : Nat) : Int) - 1) = (l.length : Int) := by rw [wrap_id (by omega) (by omega)]; omega
  simp only [go_sem, simprocAttr, r2, k4, k5, pairs_len, w1]
  have alive : Alive σ' others := fun j hj => k1.1 j (by simp [hj])
  have frame : ∀ j ∈ others, (σ'.set hp (.row 0 false 1 [[v']])).get j = σ.get j := fun j hj => by
    rw [Store.get_set_ne _ _ (fun e : j = hp => h0 (by rw [← e]; exact hj)), k2 j (by simp [hj]), get_fresh hid (h2.1 j (by simp [hj]))]
  refine loop_rule (fun m fr σ2 => ∃ (i : Nat) (l2 : List (Int × Int)), m = i ∧ fr = [(0, .ptr hp 0 0 0), (6, .i i)] ∧ i < l2.length ∧ l2.length = l.length + 1 ∧ HeapAt σ2 hp l2 others ∧ (∀ j ∈ others, σ2.get j = σ.get j) ∧ siftUp (i + 1) l2 i = siftUp (l.length + 1) (l ++ [(k, x)]) l.length)
    l.length ⟨l.length, l ++ [(k, x)], rfl, rfl, by simp, by simp, ⟨h0, v', by simp, k3⟩, frame, rfl⟩ ?_
  rintro m fr σ2 ⟨i, l2, rfl, rfl, hi, hl2, ⟨_, v2, q1, q2⟩, q3, q4⟩
  simp only [go_sem, simprocAttr]
  refine .intro (fun h3 => ?_) (fun h3 => ?_)
  · have w2 : IntKind.i64.wrap ((m : Int) - 1) = ((m - 1 : Nat) : Int) := by rw [wrap_id (by omega) (by omega)]; omega
    have w3 : IntKind.i64.wrap (((m - 1 : Nat) : Int).tdiv 2) = (((m - 1) / 2 : Nat) : Int) := by
      rw [Int.tdiv_eq_ediv_of_nonneg (by omega), wrap_id (by omega) (by omega)]; omega
    obtain ⟨id3, ver, off, xs, rfl, at2⟩ := q2.at (by rw [pairs_len]; omega)
    have r3 := rowAt_get q1
    have r4 := at2.row
    have x1 := at2.get (hg_row hi)
    have hp2 : (m - 1) / 2 < l2.length := by omega
    have x2 := at2.get (hg_row hp2)
    have n1 : (0 : Int) ≤ m := by omega
    have n2 : (0 : Int) ≤ (((m - 1) / 2 : Nat) : Int) := by omega
    have n3 : (m : Int) < l2.length := by omega
    have n4 : (((m - 1) / 2 : Nat) : Int) < l2.length := by omega
    simp only [go_sem, simprocAttr, w2, w3]
    unfold op51_33
    simp only [go_sem, simprocAttr, r3, r4, n1, n2, n3, n4, x1, x2]
    refine goodD_imm (ahead_ok _ _ _ _) rfl ?_
    simp only [go_sem, simprocAttr]
    have hm : m ≠ 0 := by omega
    refine .intro (fun h4 => ?_) (fun h4 => ?_)
    · simp only [go_sem, simprocAttr]
      unfold op51_49
      have hne2 : ¬ (off + m = off + (m - 1) / 2) := by omega
      have c1 := at2.write m [.sc (.int .i64 (hg l2 ((m - 1) / 2)).1), .sc (.int .i64 (hg l2 ((m - 1) / 2)).2)] (by rw [pairs_len]; exact hi)
      have x3 : (xs.set (off + m) [.sc (.int .i64 (hg l2 ((m - 1) / 2)).1), .sc (.int .i64 (hg l2 ((m - 1) / 2)).2)])[off + (m - 1) / 2]? = some [.sc (.int .i64 (hg l2 ((m - 1) / 2)).1), .sc (.int .i64 (hg l2 ((m - 1) / 2)).2)] := by
        rw [List.getElem?_set_ne hne2]; exact x2
      have c2 := c1.write ((m - 1) / 2) [.sc (.int .i64 (hg l2 m).1), .sc (.int .i64 (hg l2 m).2)] (by rw [List.length_set, pairs_len]; exact hp2)
      have hne3 : hp ≠ id3 := at2.ne (by simp)
      simp only [go_sem, simprocAttr, r3, r4, n1, n2, n3, n4, x1, x2, x3, rowAt_ne hne3]
      rw [← pairs_set, ← pairs_set] at c2
      simp only [Store.set_set] at c2
      refine back_of _ ?_ ⟨(m - 1) / 2, hswap l2 m ((m - 1) / 2), rfl, rfl, by rw [hswap_len]; exact hp2, by rw [hswap_len]; exact hl2, ⟨h0, _, ?_, c2.acc⟩, fun j hj => ?_, ?_⟩
      · omega
      · rw [Store.get_set_ne _ _ hne3, q1]
        simp [hswap, pairs]
      · rw [Store.get_set_ne _ _ (at2.ne (by simp [hj])), q3 j hj]
      · rw [← q4]
        conv => rhs; unfold siftUp
        rw [if_neg hm, if_pos h4]
        exact (siftUp_fuel m _ _ (by omega)).symm
    · simp only [go_sem, simprocAttr]
      have e : siftUp (m + 1) l2 m = l2 := by
        unfold siftUp
        rw [if_neg hm, if_neg h4]
      rw [← q4, e]
      exact ⟨⟨h0, _, q1, q2⟩, q3⟩
  · simp only [go_sem, simprocAttr]
    have hm : m = 0 := by omega
    subst hm
    refine ⟨⟨h0, v2, q1, ?_⟩, q3⟩
    rw [← q4]
    exact q2
end Go.Proofs
