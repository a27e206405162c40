/- A part of the proof: lemmas alone, no statement. -/
import Derived.Test.YtgkgllhjakbcnaaP3
set_option linter.unusedVariables false
set_option linter.unusedSimpArgs false
set_option linter.unnecessarySimpa false
set_option linter.unusedSectionVars false
set_option linter.unusedSimpArgs false
set_option linter.unusedVariables false
namespace Go.Proofs
open Go.Ab

def Gr.firstBad (g : Gr) : List Lk → Nat → Int × Int
  | [], _ => (-1, 0)
  | l :: r, i => if g.linkErr l = 0 then g.firstBad r (i + 1) else ((i : Int), g.linkErr l)
def Gr.check (g : Gr) : Int × Int := if 120 < g.ls.length then (-1, 6) else if g.n < 1 ∨ 40 < g.n then (-1, 1) else g.firstBad g.ls 0
def Gr.Ok (g : Gr) : Prop := g.ls.length ≤ 120 ∧ 1 ≤ g.n ∧ g.n ≤ 40 ∧ ∀ l ∈ g.ls, g.linkErr l = 0

theorem Gr.firstBad_ok (g : Gr) : ∀ (ls : List Lk) (i : Nat), (g.firstBad ls i).2 = 0 ↔ ∀ l ∈ ls, g.linkErr l = 0
  | [], i => by simp [Gr.firstBad]
  | l :: r, i => by
    unfold Gr.firstBad
    by_cases h : g.linkErr l = 0
    · rw [if_pos h, g.firstBad_ok r (i + 1)]
      simp [h]
    · rw [if_neg h]
      simp [h]
theorem Gr.check_ok (g : Gr) : g.check.2 = 0 ↔ g.Ok := by
  unfold Gr.check Gr.Ok
  by_cases h1 : 120 < g.ls.length
  · rw [if_pos h1]; simp; omega
  · rw [if_neg h1]
    by_cases h2 : g.n < 1 ∨ 40 < g.n
    · rw [if_pos h2]; simp; omega
    · rw [if_neg h2, g.firstBad_ok]
      constructor
      · exact fun h => ⟨by omega, by omega, by omega, h⟩
      · exact fun h => h.2.2.2

theorem check_ok (g : Gr) : PGood Try.prog 53 [g.val] (.tup [.i g.check.1, .i g.check.2]) := by
  refine pgood_of_out 2 (good_of_wp isF53 (Nat.le_refl _) ?_)
  unfold ac53
  simp only [go_sem, Option.isSome_some, ↓reduceIte, if_true, if_false, Nat.reduceEqDiff, Nat.reduceAdd, Nat.reduceMul, Nat.reduceSub, Nat.reduceLT, Nat.reduceLeDiff, Nat.reduceDiv, Nat.reduceMod, Nat.reduceBEq, Int.reduceNeg, Int.reduceEq, Int.reduceNe, Int.reduceLT, Int.reduceLE, Int.reduceToNat, Int.reduceAdd, Int.reduceSub, Int.reduceMul, reduceCtorEq, decide_true, decide_false, Nat.zero_add, Nat.add_zero, Nat.zero_mul, Nat.sub_zero, Int.toNat_natCast, true_and, and_true, false_and, and_false, ne_eq, not_false_eq_true, not_true_eq_false, beq_self_eq_true, Bool.false_eq_true, Nat.le_refl, Nat.zero_le, Gr.val]
  intro id hid
  simp only [go_sem, Option.isSome_some, ↓reduceIte, if_true, if_false, Nat.reduceEqDiff, Nat.reduceAdd, Nat.reduceMul, Nat.reduceSub, Nat.reduceLT, Nat.reduceLeDiff, Nat.reduceDiv, Nat.reduceMod, Nat.reduceBEq, Int.reduceNeg, Int.reduceEq, Int.reduceNe, Int.reduceLT, Int.reduceLE, Int.reduceToNat, Int.reduceAdd, Int.reduceSub, Int.reduceMul, reduceCtorEq, decide_true, decide_false, Nat.zero_add, Nat.add_zero, Nat.zero_mul, Nat.sub_zero, Int.toNat_natCast, true_and, and_true, false_and, and_false, ne_eq, not_false_eq_true, not_true_eq_false, beq_self_eq_true, Bool.false_eq_true, Nat.le_refl, Nat.zero_le]
  refine .intro (fun h1 => ?_) (fun h1 => ?_)
  · simp only [go_sem, Option.isSome_some, ↓reduceIte, if_true, if_false, Nat.reduceEqDiff, Nat.reduceAdd, Nat.reduceMul, Nat.reduceSub, Nat.reduceLT, Nat.reduceLeDiff, Nat.reduceDiv, Nat.reduceMod, Nat.reduceBEq, Int.reduceNeg, Int.reduceEq, Int.reduceNe, Int.reduceLT, Int.reduceLE, Int.reduceToNat, Int.reduceAdd, Int.reduceSub, Int.reduceMul, reduceCtorEq, decide_true, decide_false, Nat.zero_add, Nat.add_zero, Nat.zero_mul, Nat.sub_zero, Int.toNat_natCast, true_and, and_true, false_and, and_false, ne_eq, not_false_eq_true, not_true_eq_false, beq_self_eq_true, Bool.false_eq_true, Nat.le_refl, Nat.zero_le]
    have e : g.check = (-1, 6) := by unfold Gr.check; rw [if_pos (by omega)]
    rw [e]
    exact out_tup2 out_sc out_sc
  simp only [go_sem, Option.isSome_some, ↓reduceIte, if_true, if_false, Nat.reduceEqDiff, Nat.reduceAdd, Nat.reduceMul, Nat.reduceSub, Nat.reduceLT, Nat.reduceLeDiff, Nat.reduceDiv, Nat.reduceMod, Nat.reduceBEq, Int.reduceNeg, Int.reduceEq, Int.reduceNe, Int.reduceLT, Int.reduceLE, Int.reduceToNat, Int.reduceAdd, Int.reduceSub, Int.reduceMul, reduceCtorEq, decide_true, decide_false, Nat.zero_add, Nat.add_zero, Nat.zero_mul, Nat.sub_zero, Int.toNat_natCast, true_and, and_true, false_and, and_false, ne_eq, not_false_eq_true, not_true_eq_false, beq_self_eq_true, Bool.false_eq_true, Nat.le_refl, Nat.zero_le]
  by_cases h2 : g.n < 1
  · simp only [go_sem, Option.isSome_some, ↓reduceIte, if_true, if_false, Nat.reduceEqDiff, Nat.reduceAdd, Nat.reduceMul, Nat.reduceSub, Nat.reduceLT, Nat.reduceLeDiff, Nat.reduceDiv, Nat.reduceMod, Nat.reduceBEq, Int.reduceNeg, Int.reduceEq, Int.reduceNe, Int.reduceLT, Int.reduceLE, Int.reduceToNat, Int.reduceAdd, Int.reduceSub, Int.reduceMul, reduceCtorEq, decide_true, decide_false, Nat.zero_add, Nat.add_zero, Nat.zero_mul, Nat.sub_zero, Int.toNat_natCast, true_and, and_true, false_and, and_false, ne_eq, not_false_eq_true, not_true_eq_false, beq_self_eq_true, Bool.false_eq_true, Nat.le_refl, Nat.zero_le, h2]
    have e : g.check = (-1, 1) := by unfold Gr.check; rw [if_neg (by omega), if_pos (.inl h2)]
    rw [e]
    exact out_tup2 out_sc out_sc
  simp only [go_sem, Option.isSome_some, ↓reduceIte, if_true, if_false, Nat.reduceEqDiff, Nat.reduceAdd, Nat.reduceMul, Nat.reduceSub, Nat.reduceLT, Nat.reduceLeDiff, Nat.reduceDiv, Nat.reduceMod, Nat.reduceBEq, Int.reduceNeg, Int.reduceEq, Int.reduceNe, Int.reduceLT, Int.reduceLE, Int.reduceToNat, Int.reduceAdd, Int.reduceSub, Int.reduceMul, reduceCtorEq, decide_true, decide_false, Nat.zero_add, Nat.add_zero, Nat.zero_mul, Nat.sub_zero, Int.toNat_natCast, true_and, and_true, false_and, and_false, ne_eq, not_false_eq_true, not_true_eq_false, beq_self_eq_true, Bool.false_eq_true, Nat.le_refl, Nat.zero_le, h2]
  refine .intro (fun h3 => ?_) (fun h3 => ?_)
  · simp only [go_sem, Option.isSome_some, ↓reduceIte, if_true, if_false, Nat.reduceEqDiff, Nat.reduceAdd, Nat.reduceMul, Nat.reduceSub, Nat.reduceLT, Nat.reduceLeDiff, Nat.reduceDiv, Nat.reduceMod, Nat.reduceBEq, Int.reduceNeg, Int.reduceEq, Int.reduceNe, Int.reduceLT, Int.reduceLE, Int.reduceToNat, Int.reduceAdd, Int.reduceSub, Int.reduceMul, reduceCtorEq, decide_true, decide_false, Nat.zero_add, Nat.add_zero, Nat.zero_mul, Nat.sub_zero, Int.toNat_natCast, true_and, and_true, false_and, and_false, ne_eq, not_false_eq_true, not_true_eq_false, beq_self_eq_true, Bool.false_eq_true, Nat.le_refl, Nat.zero_le]
    have e : g.check = (-1, 1) := by unfold Gr.check; rw [if_neg (by omega), if_pos (.inr h3)]
    rw [e]
    exact out_tup2 out_sc out_sc
  simp only [go_sem, Option.isSome_some, ↓reduceIte, if_true, if_false, Nat.reduceEqDiff, Nat.reduceAdd, Nat.reduceMul, Nat.reduceSub, Nat.reduceLT, Nat.reduceLeDiff, Nat.reduceDiv, Nat.reduceMod, Nat.reduceBEq, Int.reduceNeg, Int.reduceEq, Int.reduceNe, Int.reduceLT, Int.reduceLE, Int.reduceToNat, Int.reduceAdd, Int.reduceSub, Int.reduceMul, reduceCtorEq, decide_true, decide_false, Nat.zero_add, Nat.add_zero, Nat.zero_mul, Nat.sub_zero, Int.toNat_natCast, true_and, and_true, false_and, and_false, ne_eq, not_false_eq_true, not_true_eq_false, beq_self_eq_true, Bool.false_eq_true, Nat.le_refl, Nat.zero_le]
  have e0 : g.check = g.firstBad g.ls 0 := by unfold Gr.check; rw [if_neg (by omega), if_neg (by omega)]
  refine loop_rule (fun m fr σ => ∃ (i : Nat), i ≤ g.ls.length ∧ m = g.ls.length - i ∧ fr = [(1, .ptr id 0 0 0), (22, .lst (g.ls.map Lk.row)), (23, .i (g.ls.length)), (24, .i i)] ∧
    σ.get id = some (.row 0 false 2 [[.sc (.int .i64 g.n), .lst (g.ls.map Lk.row)]]) ∧ g.check = g.firstBad (g.ls.drop i) i) g.ls.length ⟨0, by omega, rfl, rfl, by simp, e0⟩ ?_
  rintro m fr σ ⟨i, h4, rfl, rfl, h5, h6⟩
  simp only [go_sem, Option.isSome_some, ↓reduceIte, if_true, if_false, Nat.reduceEqDiff, Nat.reduceAdd, Nat.reduceMul, Nat.reduceSub, Nat.reduceLT, Nat.reduceLeDiff, Nat.reduceDiv, Nat.reduceMod, Nat.reduceBEq, Int.reduceNeg, Int.reduceEq, Int.reduceNe, Int.reduceLT, Int.reduceLE, Int.reduceToNat, Int.reduceAdd, Int.reduceSub, Int.reduceMul, reduceCtorEq, decide_true, decide_false, Nat.zero_add, Nat.add_zero, Nat.zero_mul, Nat.sub_zero, Int.toNat_natCast, true_and, and_true, false_and, and_false, ne_eq, not_false_eq_true, not_true_eq_false, beq_self_eq_true, Bool.false_eq_true, Nat.le_refl, Nat.zero_le]
  refine .intro (fun h => ?_) (fun h => ?_)
  · have hlt : i < g.ls.length := by omega
    have hx : (g.ls.map Lk.row)[i]? = some (g.ls[i]).row := by simp [hlt]
    have hn : (0 : Int) ≤ i := by omega
    have hd : g.ls.drop i = g.ls[i] :: g.ls.drop (i + 1) := List.drop_eq_getElem_cons hlt
    rw [hd] at h6
    have hrow : (g.ls[i]).row.length = 4 := rfl
    generalize g.ls[i] = l at *
    simp only [go_sem, Option.isSome_some, ↓reduceIte, if_true, if_false, Nat.reduceEqDiff, Nat.reduceAdd, Nat.reduceMul, Nat.reduceSub, Nat.reduceLT, Nat.reduceLeDiff, Nat.reduceDiv, Nat.reduceMod, Nat.reduceBEq, Int.reduceNeg, Int.reduceEq, Int.reduceNe, Int.reduceLT, Int.reduceLE, Int.reduceToNat, Int.reduceAdd, Int.reduceSub, Int.reduceMul, reduceCtorEq, decide_true, decide_false, Nat.zero_add, Nat.add_zero, Nat.zero_mul, Nat.sub_zero, Int.toNat_natCast, true_and, and_true, false_and, and_false, ne_eq, not_false_eq_true, not_true_eq_false, beq_self_eq_true, Bool.false_eq_true, Nat.le_refl, Nat.zero_le, hx, hn, hrow, List.take_length]
    have ht : l.row.take 4 = l.row := rfl
    simp only [go_sem, Option.isSome_some, ↓reduceIte, if_true, if_false, Nat.reduceEqDiff, Nat.reduceAdd, Nat.reduceMul, Nat.reduceSub, Nat.reduceLT, Nat.reduceLeDiff, Nat.reduceDiv, Nat.reduceMod, Nat.reduceBEq, Int.reduceNeg, Int.reduceEq, Int.reduceNe, Int.reduceLT, Int.reduceLE, Int.reduceToNat, Int.reduceAdd, Int.reduceSub, Int.reduceMul, reduceCtorEq, decide_true, decide_false, Nat.zero_add, Nat.add_zero, Nat.zero_mul, Nat.sub_zero, Int.toNat_natCast, true_and, and_true, false_and, and_false, ne_eq, not_false_eq_true, not_true_eq_false, beq_self_eq_true, Bool.false_eq_true, Nat.le_refl, Nat.zero_le, ht]
    intro id2 hid2
    simp only [go_sem, Option.isSome_some, ↓reduceIte, if_true, if_false, Nat.reduceEqDiff, Nat.reduceAdd, Nat.reduceMul, Nat.reduceSub, Nat.reduceLT, Nat.reduceLeDiff, Nat.reduceDiv, Nat.reduceMod, Nat.reduceBEq, Int.reduceNeg, Int.reduceEq, Int.reduceNe, Int.reduceLT, Int.reduceLE, Int.reduceToNat, Int.reduceAdd, Int.reduceSub, Int.reduceMul, reduceCtorEq, decide_true, decide_false, Nat.zero_add, Nat.add_zero, Nat.zero_mul, Nat.sub_zero, Int.toNat_natCast, true_and, and_true, false_and, and_false, ne_eq, not_false_eq_true, not_true_eq_false, beq_self_eq_true, Bool.false_eq_true, Nat.le_refl, Nat.zero_le, hrow, rowAt_fresh hid2, rowAt_of h5, h5]
    have hr : Ab.rowAt σ id 0 = some (false, 2, [[.sc (.int .i64 g.n), .lst (g.ls.map Lk.row)]]) := by rw [rowAt_of h5]; rfl
    rw [ht]
    refine good_imm (link_ok g l) rfl ?_
    simp only [go_sem, Option.isSome_some, ↓reduceIte, if_true, if_false, Nat.reduceEqDiff, Nat.reduceAdd, Nat.reduceMul, Nat.reduceSub, Nat.reduceLT, Nat.reduceLeDiff, Nat.reduceDiv, Nat.reduceMod, Nat.reduceBEq, Int.reduceNeg, Int.reduceEq, Int.reduceNe, Int.reduceLT, Int.reduceLE, Int.reduceToNat, Int.reduceAdd, Int.reduceSub, Int.reduceMul, reduceCtorEq, decide_true, decide_false, Nat.zero_add, Nat.add_zero, Nat.zero_mul, Nat.sub_zero, Int.toNat_natCast, true_and, and_true, false_and, and_false, ne_eq, not_false_eq_true, not_true_eq_false, beq_self_eq_true, Bool.false_eq_true, Nat.le_refl, Nat.zero_le]
    have hw2 : IntKind.i64.wrap ((i : Int) + 1) = ((i + 1 : Nat) : Int) := by rw [wrap_id (by omega) (by omega)]; rfl
    refine .intro (fun h7 => ?_) (fun h7 => ?_)
    · simp only [go_sem, Option.isSome_some, ↓reduceIte, if_true, if_false, Nat.reduceEqDiff, Nat.reduceAdd, Nat.reduceMul, Nat.reduceSub, Nat.reduceLT, Nat.reduceLeDiff, Nat.reduceDiv, Nat.reduceMod, Nat.reduceBEq, Int.reduceNeg, Int.reduceEq, Int.reduceNe, Int.reduceLT, Int.reduceLE, Int.reduceToNat, Int.reduceAdd, Int.reduceSub, Int.reduceMul, reduceCtorEq, decide_true, decide_false, Nat.zero_add, Nat.add_zero, Nat.zero_mul, Nat.sub_zero, Int.toNat_natCast, true_and, and_true, false_and, and_false, ne_eq, not_false_eq_true, not_true_eq_false, beq_self_eq_true, Bool.false_eq_true, Nat.le_refl, Nat.zero_le, hw2]
      refine back_of _ ?_ ⟨i + 1, by omega, rfl, rfl, ?_, ?_⟩
      · omega
      · rw [get_fresh hid2 (by rw [h5]; rfl), h5]
      · rw [h6]
        simp only [Gr.firstBad, h7, if_true]
    · simp only [go_sem, Option.isSome_some, ↓reduceIte, if_true, if_false, Nat.reduceEqDiff, Nat.reduceAdd, Nat.reduceMul, Nat.reduceSub, Nat.reduceLT, Nat.reduceLeDiff, Nat.reduceDiv, Nat.reduceMod, Nat.reduceBEq, Int.reduceNeg, Int.reduceEq, Int.reduceNe, Int.reduceLT, Int.reduceLE, Int.reduceToNat, Int.reduceAdd, Int.reduceSub, Int.reduceMul, reduceCtorEq, decide_true, decide_false, Nat.zero_add, Nat.add_zero, Nat.zero_mul, Nat.sub_zero, Int.toNat_natCast, true_and, and_true, false_and, and_false, ne_eq, not_false_eq_true, not_true_eq_false, beq_self_eq_true, Bool.false_eq_true, Nat.le_refl, Nat.zero_le]
      rw [h6]
      simp only [Gr.firstBad, h7, if_false]
      exact out_tup2 out_sc out_sc
  · simp only [go_sem, Option.isSome_some, ↓reduceIte, if_true, if_false, Nat.reduceEqDiff, Nat.reduceAdd, Nat.reduceMul, Nat.reduceSub, Nat.reduceLT, Nat.reduceLeDiff, Nat.reduceDiv, Nat.reduceMod, Nat.reduceBEq, Int.reduceNeg, Int.reduceEq, Int.reduceNe, Int.reduceLT, Int.reduceLE, Int.reduceToNat, Int.reduceAdd, Int.reduceSub, Int.reduceMul, reduceCtorEq, decide_true, decide_false, Nat.zero_add, Nat.add_zero, Nat.zero_mul, Nat.sub_zero, Int.toNat_natCast, true_and, and_true, false_and, and_false, ne_eq, not_false_eq_true, not_true_eq_false, beq_self_eq_true, Bool.false_eq_true, Nat.le_refl, Nat.zero_le]
    have e : i = g.ls.length := by omega
    subst e
    rw [h6, List.drop_length]
    exact out_tup2 out_sc out_sc

theorem right_ok (g : Gr) : PGood Try.prog 35 [g.val] (.b (decide (g.check.2 = 0))) := by
  refine pgood_of_out 1 (good_of_wp isF35 (Nat.le_refl _) ?_)
  unfold ac35
  simp only [go_sem, Option.isSome_some, ↓reduceIte, if_true, if_false, Nat.reduceEqDiff, Nat.reduceAdd, Nat.reduceMul, Nat.reduceSub, Nat.reduceLT, Nat.reduceLeDiff, Nat.reduceDiv, Nat.reduceMod, Nat.reduceBEq, Int.reduceNeg, Int.reduceEq, Int.reduceNe, Int.reduceLT, Int.reduceLE, Int.reduceToNat, Int.reduceAdd, Int.reduceSub, Int.reduceMul, reduceCtorEq, decide_true, decide_false, Nat.zero_add, Nat.add_zero, Nat.zero_mul, Nat.sub_zero, Int.toNat_natCast, true_and, and_true, false_and, and_false, ne_eq, not_false_eq_true, not_true_eq_false, beq_self_eq_true, Bool.false_eq_true, Nat.le_refl, Nat.zero_le, Gr.val]
  intro id hid
  simp only [go_sem, Option.isSome_some, ↓reduceIte, if_true, if_false, Nat.reduceEqDiff, Nat.reduceAdd, Nat.reduceMul, Nat.reduceSub, Nat.reduceLT, Nat.reduceLeDiff, Nat.reduceDiv, Nat.reduceMod, Nat.reduceBEq, Int.reduceNeg, Int.reduceEq, Int.reduceNe, Int.reduceLT, Int.reduceLE, Int.reduceToNat, Int.reduceAdd, Int.reduceSub, Int.reduceMul, reduceCtorEq, decide_true, decide_false, Nat.zero_add, Nat.add_zero, Nat.zero_mul, Nat.sub_zero, Int.toNat_natCast, true_and, and_true, false_and, and_false, ne_eq, not_false_eq_true, not_true_eq_false, beq_self_eq_true, Bool.false_eq_true, Nat.le_refl, Nat.zero_le]
  refine good_imm (check_ok g) rfl ?_
  simp only [go_sem, Option.isSome_some, ↓reduceIte, if_true, if_false, Nat.reduceEqDiff, Nat.reduceAdd, Nat.reduceMul, Nat.reduceSub, Nat.reduceLT, Nat.reduceLeDiff, Nat.reduceDiv, Nat.reduceMod, Nat.reduceBEq, Int.reduceNeg, Int.reduceEq, Int.reduceNe, Int.reduceLT, Int.reduceLE, Int.reduceToNat, Int.reduceAdd, Int.reduceSub, Int.reduceMul, reduceCtorEq, decide_true, decide_false, Nat.zero_add, Nat.add_zero, Nat.zero_mul, Nat.sub_zero, Int.toNat_natCast, true_and, and_true, false_and, and_false, ne_eq, not_false_eq_true, not_true_eq_false, beq_self_eq_true, Bool.false_eq_true, Nat.le_refl, Nat.zero_le]
  exact out_sc

def isUp (down : List Bool) (e : Int) : Bool := decide ((down.length : Int) ≤ e / 2) || !(down.getD (e / 2).toNat false)
theorem up_ok (down : List Bool) (e : Int) (h0 : 0 ≤ e) (h1 : e < 9223372036854775808) : PGood Try.prog 37 [.lst (bools down), .i e] (.b (isUp down e)) := by
  refine pgood_of_out 1 (good_of_wp isF37 (Nat.le_refl _) ?_)
  unfold ac37
  have hq : IntKind.i64.wrap (e.tdiv 2) = e / 2 := by
    rw [Int.tdiv_eq_ediv_of_nonneg (by omega)]
    exact wrap_id (by omega) (by omega)
  simp only [go_sem, Option.isSome_some, ↓reduceIte, if_true, if_false, Nat.reduceEqDiff, Nat.reduceAdd, Nat.reduceMul, Nat.reduceSub, Nat.reduceLT, Nat.reduceLeDiff, Nat.reduceDiv, Nat.reduceMod, Nat.reduceBEq, Int.reduceNeg, Int.reduceEq, Int.reduceNe, Int.reduceLT, Int.reduceLE, Int.reduceToNat, Int.reduceAdd, Int.reduceSub, Int.reduceMul, reduceCtorEq, decide_true, decide_false, Nat.zero_add, Nat.add_zero, Nat.zero_mul, Nat.sub_zero, Int.toNat_natCast, true_and, and_true, false_and, and_false, ne_eq, not_false_eq_true, not_true_eq_false, beq_self_eq_true, Bool.false_eq_true, Nat.le_refl, Nat.zero_le, hq]
  by_cases h : (down.length : Int) ≤ e / 2
  · simp only [go_sem, Option.isSome_some, ↓reduceIte, if_true, if_false, Nat.reduceEqDiff, Nat.reduceAdd, Nat.reduceMul, Nat.reduceSub, Nat.reduceLT, Nat.reduceLeDiff, Nat.reduceDiv, Nat.reduceMod, Nat.reduceBEq, Int.reduceNeg, Int.reduceEq, Int.reduceNe, Int.reduceLT, Int.reduceLE, Int.reduceToNat, Int.reduceAdd, Int.reduceSub, Int.reduceMul, reduceCtorEq, decide_true, decide_false, Nat.zero_add, Nat.add_zero, Nat.zero_mul, Nat.sub_zero, Int.toNat_natCast, true_and, and_true, false_and, and_false, ne_eq, not_false_eq_true, not_true_eq_false, beq_self_eq_true, Bool.false_eq_true, Nat.le_refl, Nat.zero_le, h]
    refine sub_out out_sc ?_
    simp [isUp, h]
  · have hlt : (e / 2).toNat < down.length := by omega
    have hx : (bools down)[(e / 2).toNat]? = some [.sc (.bool down[(e / 2).toNat])] := bools_get (List.getElem?_eq_getElem hlt)
    have hn : 0 ≤ e / 2 := by omega
    simp only [go_sem, Option.isSome_some, ↓reduceIte, if_true, if_false, Nat.reduceEqDiff, Nat.reduceAdd, Nat.reduceMul, Nat.reduceSub, Nat.reduceLT, Nat.reduceLeDiff, Nat.reduceDiv, Nat.reduceMod, Nat.reduceBEq, Int.reduceNeg, Int.reduceEq, Int.reduceNe, Int.reduceLT, Int.reduceLE, Int.reduceToNat, Int.reduceAdd, Int.reduceSub, Int.reduceMul, reduceCtorEq, decide_true, decide_false, Nat.zero_add, Nat.add_zero, Nat.zero_mul, Nat.sub_zero, Int.toNat_natCast, true_and, and_true, false_and, and_false, ne_eq, not_false_eq_true, not_true_eq_false, beq_self_eq_true, Bool.false_eq_true, Nat.le_refl, Nat.zero_le, h, hq, hx, hn]
    refine sub_out out_sc ?_
    simp [isUp, h, hlt]

theorem ahead_ok (a b c d : Int) : PGood Try.prog 67 [.agg [.i a, .i b], .agg [.i c, .i d]] (.b (decide (a < c ∨ a = c ∧ b < d))) := by
  refine pgood_of_out 1 (good_of_wp isF67 (Nat.le_refl _) ?_)
  unfold ac67
  simp only [go_sem, Option.isSome_some, ↓reduceIte, if_true, if_false, Nat.reduceEqDiff, Nat.reduceAdd, Nat.reduceMul, Nat.reduceSub, Nat.reduceLT, Nat.reduceLeDiff, Nat.reduceDiv, Nat.reduceMod, Nat.reduceBEq, Int.reduceNeg, Int.reduceEq, Int.reduceNe, Int.reduceLT, Int.reduceLE, Int.reduceToNat, Int.reduceAdd, Int.reduceSub, Int.reduceMul, reduceCtorEq, decide_true, decide_false, Nat.zero_add, Nat.add_zero, Nat.zero_mul, Nat.sub_zero, Int.toNat_natCast, true_and, and_true, false_and, and_false, ne_eq, not_false_eq_true, not_true_eq_false, beq_self_eq_true, Bool.false_eq_true, Nat.le_refl, Nat.zero_le]
  intro id hid
  simp only [go_sem, Option.isSome_some, ↓reduceIte, if_true, if_false, Nat.reduceEqDiff, Nat.reduceAdd, Nat.reduceMul, Nat.reduceSub, Nat.reduceLT, Nat.reduceLeDiff, Nat.reduceDiv, Nat.reduceMod, Nat.reduceBEq, Int.reduceNeg, Int.reduceEq, Int.reduceNe, Int.reduceLT, Int.reduceLE, Int.reduceToNat, Int.reduceAdd, Int.reduceSub, Int.reduceMul, reduceCtorEq, decide_true, decide_false, Nat.zero_add, Nat.add_zero, Nat.zero_mul, Nat.sub_zero, Int.toNat_natCast, true_and, and_true, false_and, and_false, ne_eq, not_false_eq_true, not_true_eq_false, beq_self_eq_true, Bool.false_eq_true, Nat.le_refl, Nat.zero_le]
  intro id2 hid2
  simp only [go_sem, Option.isSome_some, ↓reduceIte, if_true, if_false, Nat.reduceEqDiff, Nat.reduceAdd, Nat.reduceMul, Nat.reduceSub, Nat.reduceLT, Nat.reduceLeDiff, Nat.reduceDiv, Nat.reduceMod, Nat.reduceBEq, Int.reduceNeg, Int.reduceEq, Int.reduceNe, Int.reduceLT, Int.reduceLE, Int.reduceToNat, Int.reduceAdd, Int.reduceSub, Int.reduceMul, reduceCtorEq, decide_true, decide_false, Nat.zero_add, Nat.add_zero, Nat.zero_mul, Nat.sub_zero, Int.toNat_natCast, true_and, and_true, false_and, and_false, ne_eq, not_false_eq_true, not_true_eq_false, beq_self_eq_true, Bool.false_eq_true, Nat.le_refl, Nat.zero_le, rowAt_fresh hid2]
  by_cases h1 : a < c
  · simp only [go_sem, Option.isSome_some, ↓reduceIte, if_true, if_false, Nat.reduceEqDiff, Nat.reduceAdd, Nat.reduceMul, Nat.reduceSub, Nat.reduceLT, Nat.reduceLeDiff, Nat.reduceDiv, Nat.reduceMod, Nat.reduceBEq, Int.reduceNeg, Int.reduceEq, Int.reduceNe, Int.reduceLT, Int.reduceLE, Int.reduceToNat, Int.reduceAdd, Int.reduceSub, Int.reduceMul, reduceCtorEq, decide_true, decide_false, Nat.zero_add, Nat.add_zero, Nat.zero_mul, Nat.sub_zero, Int.toNat_natCast, true_and, and_true, false_and, and_false, ne_eq, not_false_eq_true, not_true_eq_false, beq_self_eq_true, Bool.false_eq_true, Nat.le_refl, Nat.zero_le, h1]
    refine sub_out out_sc ?_
    simp
  · simp only [go_sem, Option.isSome_some, ↓reduceIte, if_true, if_false, Nat.reduceEqDiff, Nat.reduceAdd, Nat.reduceMul, Nat.reduceSub, Nat.reduceLT, Nat.reduceLeDiff, Nat.reduceDiv, Nat.reduceMod, Nat.reduceBEq, Int.reduceNeg, Int.reduceEq, Int.reduceNe, Int.reduceLT, Int.reduceLE, Int.reduceToNat, Int.reduceAdd, Int.reduceSub, Int.reduceMul, reduceCtorEq, decide_true, decide_false, Nat.zero_add, Nat.add_zero, Nat.zero_mul, Nat.sub_zero, Int.toNat_natCast, true_and, and_true, false_and, and_false, ne_eq, not_false_eq_true, not_true_eq_false, beq_self_eq_true, Bool.false_eq_true, Nat.le_refl, Nat.zero_le, h1, rowAt_fresh hid2]
    by_cases h2 : a = c
    · subst h2
      simp only [go_sem, Option.isSome_some, ↓reduceIte, if_true, if_false, Nat.reduceEqDiff, Nat.reduceAdd, Nat.reduceMul, Nat.reduceSub, Nat.reduceLT, Nat.reduceLeDiff, Nat.reduceDiv, Nat.reduceMod, Nat.reduceBEq, Int.reduceNeg, Int.reduceEq, Int.reduceNe, Int.reduceLT, Int.reduceLE, Int.reduceToNat, Int.reduceAdd, Int.reduceSub, Int.reduceMul, reduceCtorEq, decide_true, decide_false, Nat.zero_add, Nat.add_zero, Nat.zero_mul, Nat.sub_zero, Int.toNat_natCast, true_and, and_true, false_and, and_false, ne_eq, not_false_eq_true, not_true_eq_false, beq_self_eq_true, Bool.false_eq_true, Nat.le_refl, Nat.zero_le, rowAt_fresh hid2]
      refine sub_out out_sc ?_
      simp
    · simp only [go_sem, Option.isSome_some, ↓reduceIte, if_true, if_false, Nat.reduceEqDiff, Nat.reduceAdd, Nat.reduceMul, Nat.reduceSub, Nat.reduceLT, Nat.reduceLeDiff, Nat.reduceDiv, Nat.reduceMod, Nat.reduceBEq, Int.reduceNeg, Int.reduceEq, Int.reduceNe, Int.reduceLT, Int.reduceLE, Int.reduceToNat, Int.reduceAdd, Int.reduceSub, Int.reduceMul, reduceCtorEq, decide_true, decide_false, Nat.zero_add, Nat.add_zero, Nat.zero_mul, Nat.sub_zero, Int.toNat_natCast, true_and, and_true, false_and, and_false, ne_eq, not_false_eq_true, not_true_eq_false, beq_self_eq_true, Bool.false_eq_true, Nat.le_refl, Nat.zero_le, h2]
      refine sub_out out_sc ?_
      simp
end Go.Proofs

set_option linter.unusedSimpArgs false
set_option linter.unusedVariables false
namespace Go.Proofs
open Go.Ab

/-! ### The heap -/
def pairs (l : List (Int × Int)) : List (List AVal) := l.map fun p => [.sc (.int .i64 p.1), .sc (.int .i64 p.2)]
@[go_sem] theorem pairs_len (l : List (Int × Int)) : (pairs l).length = l.length := by simp [pairs]
theorem pairs_get {l : List (Int × Int)} {i : Nat} {p : Int × Int} (h : l[i]? = some p) : (pairs l)[i]? = some [.sc (.int .i64 p.1), .sc (.int .i64 p.2)] := by simp [pairs, h]
theorem pairs_set (l : List (Int × Int)) (i : Nat) (p : Int × Int) : pairs (l.set i p) = (pairs l).set i [.sc (.int .i64 p.1), .sc (.int .i64 p.2)] := by simp [pairs]
theorem pairs_app (l m : List (Int × Int)) : pairs (l ++ m) = pairs l ++ pairs m := by simp [pairs]
@[go_sem] theorem pairs_all (l : List (Int × Int)) : (pairs l).all (·.length == 2) = true := by simp [pairs]
abbrev lt2 (p q : Int × Int) : Prop := p.1 < q.1 ∨ p.1 = q.1 ∧ p.2 < q.2

theorem hlen_ok (l : List (Int × Int)) : PGood Try.prog 68 [.iptr [.lst (pairs l)] 0] (.i l.length) := by
  refine pgood_of_out 1 (good_of_wp isF68 (Nat.le_refl _) ?_)
  unfold ac68
  simp only [go_sem, Option.isSome_some, ↓reduceIte, if_true, if_false, Nat.reduceEqDiff, Nat.reduceAdd, Nat.reduceMul, Nat.reduceSub, Nat.reduceLT, Nat.reduceLeDiff, Nat.reduceDiv, Nat.reduceMod, Nat.reduceBEq, Int.reduceNeg, Int.reduceEq, Int.reduceNe, Int.reduceLT, Int.reduceLE, Int.reduceToNat, Int.reduceAdd, Int.reduceSub, Int.reduceMul, reduceCtorEq, decide_true, decide_false, Nat.zero_add, Nat.add_zero, Nat.zero_mul, Nat.sub_zero, Int.toNat_natCast, true_and, and_true, false_and, and_false, ne_eq, not_false_eq_true, not_true_eq_false, beq_self_eq_true, Bool.false_eq_true, Nat.le_refl, Nat.zero_le]
  exact out_sc

def better (l : List (Int × Int)) (b k : Nat) : Nat := if k < l.length ∧ lt2 (l.getD k (0, 0)) (l.getD b (0, 0)) then k else b
def leastOf (l : List (Int × Int)) (i : Nat) : Nat := better l (better l i (2 * i + 1)) (2 * i + 2)
theorem better_lt {l : List (Int × Int)} {b k : Nat} (h : b < l.length) : better l b k < l.length := by
  unfold better
  split
  · rename_i h; exact h.1
  · exact h

theorem better_ge {l : List (Int × Int)} {b k : Nat} (h : ¬ k < l.length) : better l b k = b := by
  unfold better
  rw [if_neg (fun x => h x.1)]

theorem least_ok (l : List (Int × Int)) (i : Nat) (hl : l.length < 1000000000) (hi : i < 1000000000) : PGood Try.prog 69 [.iptr [.lst (pairs l)] 0, .i i] (.i (leastOf l i)) := by
  refine pgood_of_out 1 (good_of_wp isF69 (Nat.le_refl _) ?_)
  unfold ac69
  have w1 : IntKind.i64.wrap (2 * (i : Int)) = 2 * i := wrap_id (by omega) (by omega)
  have w2 : IntKind.i64.wrap (2 * (i : Int) + 1) = 2 * i + 1 := wrap_id (by omega) (by omega)
  have w3 : IntKind.i64.wrap (2 * (i : Int) + 2) = 2 * i + 2 := wrap_id (by omega) (by omega)
  simp only [go_sem, Option.isSome_some, ↓reduceIte, if_true, if_false, Nat.reduceEqDiff, Nat.reduceAdd, Nat.reduceMul, Nat.reduceSub, Nat.reduceLT, Nat.reduceLeDiff, Nat.reduceDiv, Nat.reduceMod, Nat.reduceBEq, Int.reduceNeg, Int.reduceEq, Int.reduceNe, Int.reduceLT, Int.reduceLE, Int.reduceToNat, Int.reduceAdd, Int.reduceSub, Int.reduceMul, reduceCtorEq, decide_true, decide_false, Nat.zero_add, Nat.add_zero, Nat.zero_mul, Nat.sub_zero, Int.toNat_natCast, true_and, and_true, false_and, and_false, ne_eq, not_false_eq_true, not_true_eq_false, beq_self_eq_true, Bool.false_eq_true, Nat.le_refl, Nat.zero_le, w1, w2]
  refine loop_rule (fun m fr σ => ∃ (k b : Nat), (k = 2 * i + 1 ∧ b = i ∨ k = 2 * i + 2 ∧ b = better l i (2 * i + 1) ∨ k = 2 * i + 3 ∧ b = leastOf l i) ∧ m = 2 * i + 3 - k ∧ fr = [(0, .iptr [.lst (pairs l)] 0), (1, .i i), (5, .i b), (6, .i k)] ∧ (k ≤ l.length → i < l.length → b < l.length)) 2
    ⟨2 * i + 1, i, .inl ⟨rfl, rfl⟩, by omega, by simp, by omega⟩ ?_
  rintro m fr σ ⟨k, b, hk, rfl, rfl, hb⟩
  have fin : (¬ k ≤ 2 * i + 2 ∨ ¬ k < l.length) → b = leastOf l i := by
    intro h
    rcases hk with ⟨h1, h2⟩ | ⟨h1, h2⟩ | ⟨h1, h2⟩
    · have : ¬ k < l.length := by omega
      rw [h2]; unfold leastOf
      rw [better_ge (by omega), better_ge (by omega)]
    · have : ¬ k < l.length := by omega
      rw [h2]
      exact (better_ge (by omega)).symm
    · exact h2
  simp only [go_sem, Option.isSome_some, ↓reduceIte, if_true, if_false, Nat.reduceEqDiff, Nat.reduceAdd, Nat.reduceMul, Nat.reduceSub, Nat.reduceLT, Nat.reduceLeDiff, Nat.reduceDiv, Nat.reduceMod, Nat.reduceBEq, Int.reduceNeg, Int.reduceEq, Int.reduceNe, Int.reduceLT, Int.reduceLE, Int.reduceToNat, Int.reduceAdd, Int.reduceSub, Int.reduceMul, reduceCtorEq, decide_true, decide_false, Nat.zero_add, Nat.add_zero, Nat.zero_mul, Nat.sub_zero, Int.toNat_natCast, true_and, and_true, false_and, and_false, ne_eq, not_false_eq_true, not_true_eq_false, beq_self_eq_true, Bool.false_eq_true, Nat.le_refl, Nat.zero_le, w1, w3]
  by_cases h1 : (k : Int) ≤ 2 * i + 2
  · simp only [go_sem, Option.isSome_some, ↓reduceIte, if_true, if_false, Nat.reduceEqDiff, Nat.reduceAdd, Nat.reduceMul, Nat.reduceSub, Nat.reduceLT, Nat.reduceLeDiff, Nat.reduceDiv, Nat.reduceMod, Nat.reduceBEq, Int.reduceNeg, Int.reduceEq, Int.reduceNe, Int.reduceLT, Int.reduceLE, Int.reduceToNat, Int.reduceAdd, Int.reduceSub, Int.reduceMul, reduceCtorEq, decide_true, decide_false, Nat.zero_add, Nat.add_zero, Nat.zero_mul, Nat.sub_zero, Int.toNat_natCast, true_and, and_true, false_and, and_false, ne_eq, not_false_eq_true, not_true_eq_false, beq_self_eq_true, Bool.false_eq_true, Nat.le_refl, Nat.zero_le, h1]
    refine .intro (fun h2 => ?_) (fun h2 => ?_)
    · have hkl : k < l.length := by omega
      have hbl : b < l.length := hb (by omega) (by omega)
      have x1 : (pairs l)[k]? = some [.sc (.int .i64 (l.getD k (0, 0)).1), .sc (.int .i64 (l.getD k (0, 0)).2)] := pairs_get (by simp [hkl])
      have x2 : (pairs l)[b]? = some [.sc (.int .i64 (l.getD b (0, 0)).1), .sc (.int .i64 (l.getD b (0, 0)).2)] := pairs_get (by simp [hbl])
      have n1 : (0 : Int) ≤ k := by omega
      have n2 : (0 : Int) ≤ b := by omega
      have w4 : IntKind.i64.wrap ((k : Int) + 1) = ((k + 1 : Nat) : Int) := by rw [wrap_id (by omega) (by omega)]; rfl
      simp only [go_sem, Option.isSome_some, ↓reduceIte, if_true, if_false, Nat.reduceEqDiff, Nat.reduceAdd, Nat.reduceMul, Nat.reduceSub, Nat.reduceLT, Nat.reduceLeDiff, Nat.reduceDiv, Nat.reduceMod, Nat.reduceBEq, Int.reduceNeg, Int.reduceEq, Int.reduceNe, Int.reduceLT, Int.reduceLE, Int.reduceToNat, Int.reduceAdd, Int.reduceSub, Int.reduceMul, reduceCtorEq, decide_true, decide_false, Nat.zero_add, Nat.add_zero, Nat.zero_mul, Nat.sub_zero, Int.toNat_natCast, true_and, and_true, false_and, and_false, ne_eq, not_false_eq_true, not_true_eq_false, beq_self_eq_true, Bool.false_eq_true, Nat.le_refl, Nat.zero_le, op69_27, x1, x2, n1, n2]
      refine goodD_imm (ahead_ok _ _ _ _) rfl ?_
      simp only [go_sem, Option.isSome_some, ↓reduceIte, if_true, if_false, Nat.reduceEqDiff, Nat.reduceAdd, Nat.reduceMul, Nat.reduceSub, Nat.reduceLT, Nat.reduceLeDiff, Nat.reduceDiv, Nat.reduceMod, Nat.reduceBEq, Int.reduceNeg, Int.reduceEq, Int.reduceNe, Int.reduceLT, Int.reduceLE, Int.reduceToNat, Int.reduceAdd, Int.reduceSub, Int.reduceMul, reduceCtorEq, decide_true, decide_false, Nat.zero_add, Nat.add_zero, Nat.zero_mul, Nat.sub_zero, Int.toNat_natCast, true_and, and_true, false_and, and_false, ne_eq, not_false_eq_true, not_true_eq_false, beq_self_eq_true, Bool.false_eq_true, Nat.le_refl, Nat.zero_le]
      have step : (k + 1 = 2 * i + 1 ∧ better l b k = i ∨ k + 1 = 2 * i + 2 ∧ better l b k = better l i (2 * i + 1) ∨ k + 1 = 2 * i + 3 ∧ better l b k = leastOf l i) := by
        rcases hk with ⟨h1, h2⟩ | ⟨h1, h2⟩ | ⟨h1, h2⟩
        · refine .inr (.inl ⟨by omega, by rw [h1, h2]⟩)
        · refine .inr (.inr ⟨by omega, by rw [h1, h2]; rfl⟩)
        · omega
      refine .intro (fun h3 => ?_) (fun h3 => ?_)
      · have e : better l b k = k := by unfold better; rw [if_pos ⟨hkl, h3⟩]
        rw [e] at step
        simp only [go_sem, Option.isSome_some, ↓reduceIte, if_true, if_false, Nat.reduceEqDiff, Nat.reduceAdd, Nat.reduceMul, Nat.reduceSub, Nat.reduceLT, Nat.reduceLeDiff, Nat.reduceDiv, Nat.reduceMod, Nat.reduceBEq, Int.reduceNeg, Int.reduceEq, Int.reduceNe, Int.reduceLT, Int.reduceLE, Int.reduceToNat, Int.reduceAdd, Int.reduceSub, Int.reduceMul, reduceCtorEq, decide_true, decide_false, Nat.zero_add, Nat.add_zero, Nat.zero_mul, Nat.sub_zero, Int.toNat_natCast, true_and, and_true, false_and, and_false, ne_eq, not_false_eq_true, not_true_eq_false, beq_self_eq_true, Bool.false_eq_true, Nat.le_refl, Nat.zero_le, w4]
        exact back_of _ (by omega) ⟨k + 1, k, step, rfl, rfl, by omega⟩
      · have e : better l b k = b := by unfold better; rw [if_neg (fun h => h3 h.2)]
        rw [e] at step
        simp only [go_sem, Option.isSome_some, ↓reduceIte, if_true, if_false, Nat.reduceEqDiff, Nat.reduceAdd, Nat.reduceMul, Nat.reduceSub, Nat.reduceLT, Nat.reduceLeDiff, Nat.reduceDiv, Nat.reduceMod, Nat.reduceBEq, Int.reduceNeg, Int.reduceEq, Int.reduceNe, Int.reduceLT, Int.reduceLE, Int.reduceToNat, Int.reduceAdd, Int.reduceSub, Int.reduceMul, reduceCtorEq, decide_true, decide_false, Nat.zero_add, Nat.add_zero, Nat.zero_mul, Nat.sub_zero, Int.toNat_natCast, true_and, and_true, false_and, and_false, ne_eq, not_false_eq_true, not_true_eq_false, beq_self_eq_true, Bool.false_eq_true, Nat.le_refl, Nat.zero_le, w4]
        exact back_of _ (by omega) ⟨k + 1, b, step, rfl, rfl, by omega⟩
    · simp only [go_sem, Option.isSome_some, ↓reduceIte, if_true, if_false, Nat.reduceEqDiff, Nat.reduceAdd, Nat.reduceMul, Nat.reduceSub, Nat.reduceLT, Nat.reduceLeDiff, Nat.reduceDiv, Nat.reduceMod, Nat.reduceBEq, Int.reduceNeg, Int.reduceEq, Int.reduceNe, Int.reduceLT, Int.reduceLE, Int.reduceToNat, Int.reduceAdd, Int.reduceSub, Int.reduceMul, reduceCtorEq, decide_true, decide_false, Nat.zero_add, Nat.add_zero, Nat.zero_mul, Nat.sub_zero, Int.toNat_natCast, true_and, and_true, false_and, and_false, ne_eq, not_false_eq_true, not_true_eq_false, beq_self_eq_true, Bool.false_eq_true, Nat.le_refl, Nat.zero_le]
      rw [fin (.inr (by omega))]
      exact out_sc
  · simp only [go_sem, Option.isSome_some, ↓reduceIte, if_true, if_false, Nat.reduceEqDiff, Nat.reduceAdd, Nat.reduceMul, Nat.reduceSub, Nat.reduceLT, Nat.reduceLeDiff, Nat.reduceDiv, Nat.reduceMod, Nat.reduceBEq, Int.reduceNeg, Int.reduceEq, Int.reduceNe, Int.reduceLT, Int.reduceLE, Int.reduceToNat, Int.reduceAdd, Int.reduceSub, Int.reduceMul, reduceCtorEq, decide_true, decide_false, Nat.zero_add, Nat.add_zero, Nat.zero_mul, Nat.sub_zero, Int.toNat_natCast, true_and, and_true, false_and, and_false, ne_eq, not_false_eq_true, not_true_eq_false, beq_self_eq_true, Bool.false_eq_true, Nat.le_refl, Nat.zero_le, h1]
    rw [fin (.inl (by omega))]
    exact out_sc
end Go.Proofs

set_option linter.unusedSimpArgs false
set_option linter.unusedVariables false
namespace Go.Proofs
open Go.Ab

def hg (l : List (Int × Int)) (i : Nat) : Int × Int := l.getD i (0, 0)
def hswap (l : List (Int × Int)) (i j : Nat) : List (Int × Int) := (l.set i (hg l j)).set j (hg l i)
def siftUp : Nat → List (Int × Int) → Nat → List (Int × Int)
  | 0, l, _ => l
  | f + 1, l, i => if i = 0 then l else if lt2 (hg l i) (hg l ((i - 1) / 2)) then siftUp f (hswap l i ((i - 1) / 2)) ((i - 1) / 2) else l
theorem hswap_len (l : List (Int × Int)) (i j : Nat) : (hswap l i j).length = l.length := by simp [hswap]
theorem siftUp_len : ∀ (f : Nat) (l : List (Int × Int)) (i : Nat), (siftUp f l i).length = l.length
  | 0, l, i => rfl
  | f + 1, l, i => by
    unfold siftUp
    split
    · rfl
    · split
      · rw [siftUp_len f, hswap_len]
      · rfl
theorem siftUp_fuel : ∀ (f : Nat) (l : List (Int × Int)) (i : Nat), i < f → siftUp f l i = siftUp (i + 1) l i
  | 0, l, i, h => by omega
  | f + 1, l, i, h => by
    unfold siftUp
    by_cases h0 : i = 0
    · rw [if_pos h0, if_pos h0]
    · rw [if_neg h0, if_neg h0]
      by_cases h1 : lt2 (hg l i) (hg l ((i - 1) / 2))
      · rw [if_pos h1, if_pos h1, siftUp_fuel f _ _ (by omega)]
        by_cases h2 : i = f
        · subst h2
          exact (siftUp_fuel i _ _ (by omega)).symm
        · exact (siftUp_fuel i _ _ (by omega)).symm
      · rw [if_neg h1, if_neg h1]
theorem hg_row {l : List (Int × Int)} {i : Nat} (h : i < l.length) : (pairs l)[i]? = some [.sc (.int .i64 (hg l i).1), .sc (.int .i64 (hg l i).2)] := pairs_get (by simp [hg, h])

/-- The heap's object: a row of one slice. -/
def HeapAt (σ : Store) (hp : Nat) (l : List (Int × Int)) (others : List Nat) : Prop := hp ∉ others ∧ ∃ v, σ.get hp = some (.row 0 false 1 [[v]]) ∧ Acc σ 2 v (pairs l) (hp :: others)

theorem rowAt_get {σ : Store} {id v : Nat} {fz : Bool} {sz : Nat} {xs : List (List AVal)} (h : σ.get id = some (.row v fz sz xs)) : Ab.rowAt σ id v = some (fz, sz, xs) := by rw [rowAt_of h, if_pos rfl]

theorem push_ok (σ : Store) (hp : Nat) (l : List (Int × Int)) (others : List Nat) (k x : Int) (h : HeapAt σ hp l others) (hl : l.length < 1000000000) :
    Ab.Good Try.prog 51 [.ptr hp 0 0 0, .i k, .i x] σ (fun r σ' => HeapAt σ' hp (siftUp (l.length + 1) (l ++ [(k, x)]) l.length) others ∧ ∀ j ∈ others, σ'.get j = σ.get j) := by
  refine good_of_wp isF51 (Nat.le_refl _) ?_
  unfold ac51
  obtain ⟨h0, v, h1, h2⟩ := h
  have r1 := rowAt_get h1
  simp only [go_sem, Option.isSome_some, ↓reduceIte, if_true, if_false, Nat.reduceEqDiff, Nat.reduceAdd, Nat.reduceMul, Nat.reduceSub, Nat.reduceLT, Nat.reduceLeDiff, Nat.reduceDiv, Nat.reduceMod, Nat.reduceBEq, Int.reduceNeg, Int.reduceEq, Int.reduceNe, Int.reduceLT, Int.reduceLE, Int.reduceToNat, Int.reduceAdd, Int.reduceSub, Int.reduceMul, reduceCtorEq, decide_true, decide_false, Nat.zero_add, Nat.add_zero, Nat.zero_mul, Nat.sub_zero, Int.toNat_natCast, true_and, and_true, false_and, and_false, ne_eq, not_false_eq_true, not_true_eq_false, beq_self_eq_true, Bool.false_eq_true, Nat.le_refl, Nat.zero_le, r1]
  intro id hid
  have hne : hp ≠ id := fun e => by rw [e, hid] at h1; cases h1
  simp only [go_sem, Option.isSome_some, ↓reduceIte, if_true, if_false, Nat.reduceEqDiff, Nat.reduceAdd, Nat.reduceMul, Nat.reduceSub, Nat.reduceLT, Nat.reduceLeDiff, Nat.reduceDiv, Nat.reduceMod, Nat.reduceBEq, Int.reduceNeg, Int.reduceEq, Int.reduceNe, Int.reduceLT, Int.reduceLE, Int.reduceToNat, Int.reduceAdd, Int.reduceSub, Int.reduceMul, reduceCtorEq, decide_true, decide_false, Nat.zero_add, Nat.add_zero, Nat.zero_mul, Nat.sub_zero, Int.toNat_natCast, true_and, and_true, false_and, and_false, ne_eq, not_false_eq_true, not_true_eq_false, beq_self_eq_true, Bool.false_eq_true, Nat.le_refl, Nat.zero_le, r1]
  refine acc_append (h2.fresh hid _) (by simp only [pairs_len, List.length_cons, List.length_nil]; omega) (by simp only [pairs_len, List.length_cons, List.length_nil]; omega) fun v' σ' k1 k2 => ?_
  have g1 : σ'.get hp = some (.row 0 false 1 [[v]]) := by rw [k2 hp (by simp), Store.get_set_ne _ _ hne, h1]
  have r2 := rowAt_get g1
  have hlen : (pairs l ++ [[AVal.i k, AVal.i x]]) = pairs (l ++ [(k, x)]) := by simp [pairs]
  rw [hlen] at k1
  have k3 := (k1.less (o2 := hp :: others) (fun y hy => by simp [hy])).other (id := hp) (by simp) (.row 0 false 1 [[v']])
  have k4 := k1.known
  have k5 := k3.len
  have w1 : IntKind.i64.wrap (((l.length + 1 : Nat) : Int) - 1) = (l.length : Int) := by rw [wrap_id (by omega) (by omega)]; omega
  simp only [go_sem, Option.isSome_some, ↓reduceIte, if_true, if_false, Nat.reduceEqDiff, Nat.reduceAdd, Nat.reduceMul, Nat.reduceSub, Nat.reduceLT, Nat.reduceLeDiff, Nat.reduceDiv, Nat.reduceMod, Nat.reduceBEq, Int.reduceNeg, Int.reduceEq, Int.reduceNe, Int.reduceLT, Int.reduceLE, Int.reduceToNat, Int.reduceAdd, Int.reduceSub, Int.reduceMul, reduceCtorEq, decide_true, decide_false, Nat.zero_add, Nat.add_zero, Nat.zero_mul, Nat.sub_zero, Int.toNat_natCast, true_and, and_true, false_and, and_false, ne_eq, not_false_eq_true, not_true_eq_false, beq_self_eq_true, Bool.false_eq_true, Nat.le_refl, Nat.zero_le, r2, k4, k5, pairs_len, w1]
  have alive : Alive σ' others := fun j hj => k1.1 j (by simp [hj])
  have frame : ∀ j ∈ others, (σ'.set hp (.row 0 false 1 [[v']])).get j = σ.get j := fun j hj => by
    rw [Store.get_set_ne _ _ (fun e : j = hp => h0 (by rw [← e]; exact hj)), k2 j (by simp [hj]), get_fresh hid (h2.1 j (by simp [hj]))]
  refine loop_rule (fun m fr σ2 => ∃ (i : Nat) (l2 : List (Int × Int)), m = i ∧ fr = [(0, .ptr hp 0 0 0), (6, .i i)] ∧ i < l2.length ∧ l2.length = l.length + 1 ∧ HeapAt σ2 hp l2 others ∧ (∀ j ∈ others, σ2.get j = σ.get j) ∧ siftUp (i + 1) l2 i = siftUp (l.length + 1) (l ++ [(k, x)]) l.length)
    l.length ⟨l.length, l ++ [(k, x)], rfl, rfl, by simp, by simp, ⟨h0, v', by simp, k3⟩, frame, rfl⟩ ?_
  rintro m fr σ2 ⟨i, l2, rfl, rfl, hi, hl2, ⟨_, v2, q1, q2⟩, q3, q4⟩
  simp only [go_sem, Option.isSome_some, ↓reduceIte, if_true, if_false, Nat.reduceEqDiff, Nat.reduceAdd, Nat.reduceMul, Nat.reduceSub, Nat.reduceLT, Nat.reduceLeDiff, Nat.reduceDiv, Nat.reduceMod, Nat.reduceBEq, Int.reduceNeg, Int.reduceEq, Int.reduceNe, Int.reduceLT, Int.reduceLE, Int.reduceToNat, Int.reduceAdd, Int.reduceSub, Int.reduceMul, reduceCtorEq, decide_true, decide_false, Nat.zero_add, Nat.add_zero, Nat.zero_mul, Nat.sub_zero, Int.toNat_natCast, true_and, and_true, false_and, and_false, ne_eq, not_false_eq_true, not_true_eq_false, beq_self_eq_true, Bool.false_eq_true, Nat.le_refl, Nat.zero_le]
  refine .intro (fun h3 => ?_) (fun h3 => ?_)
  · have w2 : IntKind.i64.wrap ((m : Int) - 1) = ((m - 1 : Nat) : Int) := by rw [wrap_id (by omega) (by omega)]; omega
    have w3 : IntKind.i64.wrap (((m - 1 : Nat) : Int).tdiv 2) = (((m - 1) / 2 : Nat) : Int) := by
      rw [Int.tdiv_eq_ediv_of_nonneg (by omega), wrap_id (by omega) (by omega)]; omega
    obtain ⟨id3, ver, off, xs, rfl, at2⟩ := q2.at (by rw [pairs_len]; omega)
    have r3 := rowAt_get q1
    have r4 := at2.row
    have x1 := at2.get (hg_row hi)
    have hp2 : (m - 1) / 2 < l2.length := by omega
    have x2 := at2.get (hg_row hp2)
    have n1 : (0 : Int) ≤ m := by omega
    have n2 : (0 : Int) ≤ (((m - 1) / 2 : Nat) : Int) := by omega
    have n3 : (m : Int) < l2.length := by omega
    have n4 : (((m - 1) / 2 : Nat) : Int) < l2.length := by omega
    simp only [go_sem, Option.isSome_some, ↓reduceIte, if_true, if_false, Nat.reduceEqDiff, Nat.reduceAdd, Nat.reduceMul, Nat.reduceSub, Nat.reduceLT, Nat.reduceLeDiff, Nat.reduceDiv, Nat.reduceMod, Nat.reduceBEq, Int.reduceNeg, Int.reduceEq, Int.reduceNe, Int.reduceLT, Int.reduceLE, Int.reduceToNat, Int.reduceAdd, Int.reduceSub, Int.reduceMul, reduceCtorEq, decide_true, decide_false, Nat.zero_add, Nat.add_zero, Nat.zero_mul, Nat.sub_zero, Int.toNat_natCast, true_and, and_true, false_and, and_false, ne_eq, not_false_eq_true, not_true_eq_false, beq_self_eq_true, Bool.false_eq_true, Nat.le_refl, Nat.zero_le, w2, w3]
    unfold op51_33
    simp only [go_sem, Option.isSome_some, ↓reduceIte, if_true, if_false, Nat.reduceEqDiff, Nat.reduceAdd, Nat.reduceMul, Nat.reduceSub, Nat.reduceLT, Nat.reduceLeDiff, Nat.reduceDiv, Nat.reduceMod, Nat.reduceBEq, Int.reduceNeg, Int.reduceEq, Int.reduceNe, Int.reduceLT, Int.reduceLE, Int.reduceToNat, Int.reduceAdd, Int.reduceSub, Int.reduceMul, reduceCtorEq, decide_true, decide_false, Nat.zero_add, Nat.add_zero, Nat.zero_mul, Nat.sub_zero, Int.toNat_natCast, true_and, and_true, false_and, and_false, ne_eq, not_false_eq_true, not_true_eq_false, beq_self_eq_true, Bool.false_eq_true, Nat.le_refl, Nat.zero_le, r3, r4, n1, n2, n3, n4, x1, x2]
    refine goodD_imm (ahead_ok _ _ _ _) rfl ?_
    simp only [go_sem, Option.isSome_some, ↓reduceIte, if_true, if_false, Nat.reduceEqDiff, Nat.reduceAdd, Nat.reduceMul, Nat.reduceSub, Nat.reduceLT, Nat.reduceLeDiff, Nat.reduceDiv, Nat.reduceMod, Nat.reduceBEq, Int.reduceNeg, Int.reduceEq, Int.reduceNe, Int.reduceLT, Int.reduceLE, Int.reduceToNat, Int.reduceAdd, Int.reduceSub, Int.reduceMul, reduceCtorEq, decide_true, decide_false, Nat.zero_add, Nat.add_zero, Nat.zero_mul, Nat.sub_zero, Int.toNat_natCast, true_and, and_true, false_and, and_false, ne_eq, not_false_eq_true, not_true_eq_false, beq_self_eq_true, Bool.false_eq_true, Nat.le_refl, Nat.zero_le]
    have hm : m ≠ 0 := by omega
    refine .intro (fun h4 => ?_) (fun h4 => ?_)
    · simp only [go_sem, Option.isSome_some, ↓reduceIte, if_true, if_false, Nat.reduceEqDiff, Nat.reduceAdd, Nat.reduceMul, Nat.reduceSub, Nat.reduceLT, Nat.reduceLeDiff, Nat.reduceDiv, Nat.reduceMod, Nat.reduceBEq, Int.reduceNeg, Int.reduceEq, Int.reduceNe, Int.reduceLT, Int.reduceLE, Int.reduceToNat, Int.reduceAdd, Int.reduceSub, Int.reduceMul, reduceCtorEq, decide_true, decide_false, Nat.zero_add, Nat.add_zero, Nat.zero_mul, Nat.sub_zero, Int.toNat_natCast, true_and, and_true, false_and, and_false, ne_eq, not_false_eq_true, not_true_eq_false, beq_self_eq_true, Bool.false_eq_true, Nat.le_refl, Nat.zero_le]
      unfold op51_49
      have hne2 : ¬ (off + m = off + (m - 1) / 2) := by omega
      have c1 := at2.write m [.sc (.int .i64 (hg l2 ((m - 1) / 2)).1), .sc (.int .i64 (hg l2 ((m - 1) / 2)).2)] (by rw [pairs_len]; exact hi)
      have x3 : (xs.set (off + m) [.sc (.int .i64 (hg l2 ((m - 1) / 2)).1), .sc (.int .i64 (hg l2 ((m - 1) / 2)).2)])[off + (m - 1) / 2]? = some [.sc (.int .i64 (hg l2 ((m - 1) / 2)).1), .sc (.int .i64 (hg l2 ((m - 1) / 2)).2)] := by
        rw [List.getElem?_set_ne hne2]; exact x2
      have c2 := c1.write ((m - 1) / 2) [.sc (.int .i64 (hg l2 m).1), .sc (.int .i64 (hg l2 m).2)] (by rw [List.length_set, pairs_len]; exact hp2)
      have hne3 : hp ≠ id3 := at2.ne (by simp)
      simp only [go_sem, Option.isSome_some, ↓reduceIte, if_true, if_false, Nat.reduceEqDiff, Nat.reduceAdd, Nat.reduceMul, Nat.reduceSub, Nat.reduceLT, Nat.reduceLeDiff, Nat.reduceDiv, Nat.reduceMod, Nat.reduceBEq, Int.reduceNeg, Int.reduceEq, Int.reduceNe, Int.reduceLT, Int.reduceLE, Int.reduceToNat, Int.reduceAdd, Int.reduceSub, Int.reduceMul, reduceCtorEq, decide_true, decide_false, Nat.zero_add, Nat.add_zero, Nat.zero_mul, Nat.sub_zero, Int.toNat_natCast, true_and, and_true, false_and, and_false, ne_eq, not_false_eq_true, not_true_eq_false, beq_self_eq_true, Bool.false_eq_true, Nat.le_refl, Nat.zero_le, r3, r4, n1, n2, n3, n4, x1, x2, x3, rowAt_ne hne3]
      rw [← pairs_set, ← pairs_set] at c2
      simp only [Store.set_set] at c2
      refine back_of _ ?_ ⟨(m - 1) / 2, hswap l2 m ((m - 1) / 2), rfl, rfl, by rw [hswap_len]; exact hp2, by rw [hswap_len]; exact hl2, ⟨h0, _, ?_, c2.acc⟩, fun j hj => ?_, ?_⟩
      · omega
      · rw [Store.get_set_ne _ _ hne3, q1]
        simp [hswap, pairs]
      · rw [Store.get_set_ne _ _ (at2.ne (by simp [hj])), q3 j hj]
      · rw [← q4]
        conv => rhs; unfold siftUp
        rw [if_neg hm, if_pos h4]
        exact (siftUp_fuel m _ _ (by omega)).symm
    · simp only [go_sem, Option.isSome_some, ↓reduceIte, if_true, if_false, Nat.reduceEqDiff, Nat.reduceAdd, Nat.reduceMul, Nat.reduceSub, Nat.reduceLT, Nat.reduceLeDiff, Nat.reduceDiv, Nat.reduceMod, Nat.reduceBEq, Int.reduceNeg, Int.reduceEq, Int.reduceNe, Int.reduceLT, Int.reduceLE, Int.reduceToNat, Int.reduceAdd, Int.reduceSub, Int.reduceMul, reduceCtorEq, decide_true, decide_false, Nat.zero_add, Nat.add_zero, Nat.zero_mul, Nat.sub_zero, Int.toNat_natCast, true_and, and_true, false_and, and_false, ne_eq, not_false_eq_true, not_true_eq_false, beq_self_eq_true, Bool.false_eq_true, Nat.le_refl, Nat.zero_le]
      have e : siftUp (m + 1) l2 m = l2 := by
        unfold siftUp
        rw [if_neg hm, if_neg h4]
      rw [← q4, e]
      exact ⟨⟨h0, _, q1, q2⟩, q3⟩
  · simp only [go_sem, Option.isSome_some, ↓reduceIte, if_true, if_false, Nat.reduceEqDiff, Nat.reduceAdd, Nat.reduceMul, Nat.reduceSub, Nat.reduceLT, Nat.reduceLeDiff, Nat.reduceDiv, Nat.reduceMod, Nat.reduceBEq, Int.reduceNeg, Int.reduceEq, Int.reduceNe, Int.reduceLT, Int.reduceLE, Int.reduceToNat, Int.reduceAdd, Int.reduceSub, Int.reduceMul, reduceCtorEq, decide_true, decide_false, Nat.zero_add, Nat.add_zero, Nat.zero_mul, Nat.sub_zero, Int.toNat_natCast, true_and, and_true, false_and, and_false, ne_eq, not_false_eq_true, not_true_eq_false, beq_self_eq_true, Bool.false_eq_true, Nat.le_refl, Nat.zero_le]
    have hm : m = 0 := by omega
    subst hm
    refine ⟨⟨h0, v2, q1, ?_⟩, q3⟩
    rw [← q4]
    exact q2
end Go.Proofs

set_option linter.unusedSimpArgs false
set_option linter.unusedVariables false
namespace Go.Proofs
open Go.Ab

def siftDown : Nat → List (Int × Int) → Nat → List (Int × Int)
  | 0, l, _ => l
  | f + 1, l, i => if leastOf l i = i then l else siftDown f (hswap l i (leastOf l i)) (leastOf l i)
def popped (l : List (Int × Int)) : List (Int × Int) := siftDown l.length ((l.set 0 (hg l (l.length - 1))).take (l.length - 1)) 0

theorem pairs_sc (l : List (Int × Int)) : ∀ y ∈ pairs l, ∀ c ∈ y, ∃ v, c = .sc v := by
  intro y hy c hc
  simp only [pairs, List.mem_map] at hy
  obtain ⟨p, _, rfl⟩ := hy
  simp at hc
  rcases hc with rfl | rfl
  · exact ⟨_, rfl⟩
  · exact ⟨_, rfl⟩
theorem heap_out {σ : Store} {hp : Nat} {l : List (Int × Int)} {others : List Nat} (h : HeapAt σ hp l others) : Out 4 σ (.ptr hp 0 0 0) (.iptr [.lst (pairs l)] 0) := by
  obtain ⟨_, v, h1, h2⟩ := h
  exact out_ptr1 (rowAt_get h1) rfl (acc_out (m := 1) h2 (pairs_sc l))
theorem pairs_take (l : List (Int × Int)) (n : Nat) : (pairs l).take n = pairs (l.take n) := by simp [pairs, List.map_take]
theorem better_or (l : List (Int × Int)) (b k : Nat) : (better l b k = k ∧ k < l.length) ∨ better l b k = b := by
  unfold better
  split
  · rename_i h; exact .inl ⟨rfl, h.1⟩
  · exact .inr rfl
theorem leastOf_le (l : List (Int × Int)) (i : Nat) : i ≤ leastOf l i ∧ (leastOf l i ≠ i → leastOf l i < l.length) := by
  unfold leastOf
  rcases better_or l (better l i (2 * i + 1)) (2 * i + 2) with ⟨h1, h2⟩ | h1 <;> rw [h1]
  · exact ⟨by omega, fun _ => h2⟩
  · rcases better_or l i (2 * i + 1) with ⟨h3, h4⟩ | h3 <;> rw [h3]
    · exact ⟨by omega, fun _ => h4⟩
    · exact ⟨Nat.le_refl _, fun h => absurd rfl h⟩

theorem pop_ok (σ : Store) (hp : Nat) (l : List (Int × Int)) (others : List Nat) (h : HeapAt σ hp l others) (hl : l.length < 1000000000) :
    Ab.Good Try.prog 52 [.ptr hp 0 0 0] σ (fun r σ' => if l = [] then r = .tup [.i 0, .i 0, .b false] ∧ HeapAt σ' hp [] others ∧ (∀ j ∈ others, σ'.get j = σ.get j)
      else r = .tup [.i (hg l 0).1, .i (hg l 0).2, .b true] ∧ HeapAt σ' hp (popped l) others ∧ ∀ j ∈ others, σ'.get j = σ.get j) := by
  refine good_of_wp isF52 (Nat.le_refl _) ?_
  unfold ac52
  simp only [go_sem, Option.isSome_some, ↓reduceIte, if_true, if_false, Nat.reduceEqDiff, Nat.reduceAdd, Nat.reduceMul, Nat.reduceSub, Nat.reduceLT, Nat.reduceLeDiff, Nat.reduceDiv, Nat.reduceMod, Nat.reduceBEq, Int.reduceNeg, Int.reduceEq, Int.reduceNe, Int.reduceLT, Int.reduceLE, Int.reduceToNat, Int.reduceAdd, Int.reduceSub, Int.reduceMul, reduceCtorEq, decide_true, decide_false, Nat.zero_add, Nat.add_zero, Nat.zero_mul, Nat.sub_zero, Int.toNat_natCast, true_and, and_true, false_and, and_false, ne_eq, not_false_eq_true, not_true_eq_false, beq_self_eq_true, Bool.false_eq_true, Nat.le_refl, Nat.zero_le]
  refine good_out 4 (outL1 (heap_out h)) (hlen_ok l) rfl ?_
  simp only [go_sem, Option.isSome_some, ↓reduceIte, if_true, if_false, Nat.reduceEqDiff, Nat.reduceAdd, Nat.reduceMul, Nat.reduceSub, Nat.reduceLT, Nat.reduceLeDiff, Nat.reduceDiv, Nat.reduceMod, Nat.reduceBEq, Int.reduceNeg, Int.reduceEq, Int.reduceNe, Int.reduceLT, Int.reduceLE, Int.reduceToNat, Int.reduceAdd, Int.reduceSub, Int.reduceMul, reduceCtorEq, decide_true, decide_false, Nat.zero_add, Nat.add_zero, Nat.zero_mul, Nat.sub_zero, Int.toNat_natCast, true_and, and_true, false_and, and_false, ne_eq, not_false_eq_true, not_true_eq_false, beq_self_eq_true, Bool.false_eq_true, Nat.le_refl, Nat.zero_le]
  refine .intro (fun h1 => ?_) (fun h1 => ?_)
  · simp only [go_sem, Option.isSome_some, ↓reduceIte, if_true, if_false, Nat.reduceEqDiff, Nat.reduceAdd, Nat.reduceMul, Nat.reduceSub, Nat.reduceLT, Nat.reduceLeDiff, Nat.reduceDiv, Nat.reduceMod, Nat.reduceBEq, Int.reduceNeg, Int.reduceEq, Int.reduceNe, Int.reduceLT, Int.reduceLE, Int.reduceToNat, Int.reduceAdd, Int.reduceSub, Int.reduceMul, reduceCtorEq, decide_true, decide_false, Nat.zero_add, Nat.add_zero, Nat.zero_mul, Nat.sub_zero, Int.toNat_natCast, true_and, and_true, false_and, and_false, ne_eq, not_false_eq_true, not_true_eq_false, beq_self_eq_true, Bool.false_eq_true, Nat.le_refl, Nat.zero_le]
    have e : l = [] := List.eq_nil_of_length_eq_zero (by omega)
    subst e
    simp only [if_true, true_and]
    exact ⟨h, fun _ _ => trivial⟩
  have hne : l ≠ [] := fun e => h1 (by rw [e]; rfl)
  have hpos : 0 < l.length := by omega
  simp only [hne, if_false]
  obtain ⟨h0, v, q1, q2⟩ := h
  obtain ⟨id, ver, off, xs, rfl, at1⟩ := q2.at (by rw [pairs_len]; exact hpos)
  have r1 := rowAt_get q1
  have r2 := at1.row
  have x0 : xs[off]? = some [.sc (.int .i64 (hg l 0).1), .sc (.int .i64 (hg l 0).2)] := at1.get (hg_row hpos)
  have n0 : (0 : Int) < l.length := by omega
  simp only [go_sem, Option.isSome_some, ↓reduceIte, if_true, if_false, Nat.reduceEqDiff, Nat.reduceAdd, Nat.reduceMul, Nat.reduceSub, Nat.reduceLT, Nat.reduceLeDiff, Nat.reduceDiv, Nat.reduceMod, Nat.reduceBEq, Int.reduceNeg, Int.reduceEq, Int.reduceNe, Int.reduceLT, Int.reduceLE, Int.reduceToNat, Int.reduceAdd, Int.reduceSub, Int.reduceMul, reduceCtorEq, decide_true, decide_false, Nat.zero_add, Nat.add_zero, Nat.zero_mul, Nat.sub_zero, Int.toNat_natCast, true_and, and_true, false_and, and_false, ne_eq, not_false_eq_true, not_true_eq_false, beq_self_eq_true, Bool.false_eq_true, Nat.le_refl, Nat.zero_le, r1, r2, n0, x0]
  intro id2 hid2
  have f1 := fun o => rowAt_fresh (o := o) hid2 (j := hp) (ver := 0) (by rw [r1]; rfl)
  have f2 := fun o => rowAt_fresh (o := o) hid2 (j := id) (ver := ver) (by rw [r2]; rfl)
  have w1 : IntKind.i64.wrap ((l.length : Int) - 1) = ((l.length - 1 : Nat) : Int) := by rw [wrap_id (by omega) (by omega)]; omega
  simp only [go_sem, Option.isSome_some, ↓reduceIte, if_true, if_false, Nat.reduceEqDiff, Nat.reduceAdd, Nat.reduceMul, Nat.reduceSub, Nat.reduceLT, Nat.reduceLeDiff, Nat.reduceDiv, Nat.reduceMod, Nat.reduceBEq, Int.reduceNeg, Int.reduceEq, Int.reduceNe, Int.reduceLT, Int.reduceLE, Int.reduceToNat, Int.reduceAdd, Int.reduceSub, Int.reduceMul, reduceCtorEq, decide_true, decide_false, Nat.zero_add, Nat.add_zero, Nat.zero_mul, Nat.sub_zero, Int.toNat_natCast, true_and, and_true, false_and, and_false, ne_eq, not_false_eq_true, not_true_eq_false, beq_self_eq_true, Bool.false_eq_true, Nat.le_refl, Nat.zero_le, f1, f2, r1, r2, w1]
  unfold op52_24
  have hlast : l.length - 1 < l.length := by omega
  have x1 := at1.get (hg_row hlast)
  have n1 : (0 : Int) ≤ ((l.length - 1 : Nat) : Int) := by omega
  have n2 : ((l.length - 1 : Nat) : Int) < l.length := by omega
  simp only [go_sem, Option.isSome_some, ↓reduceIte, if_true, if_false, Nat.reduceEqDiff, Nat.reduceAdd, Nat.reduceMul, Nat.reduceSub, Nat.reduceLT, Nat.reduceLeDiff, Nat.reduceDiv, Nat.reduceMod, Nat.reduceBEq, Int.reduceNeg, Int.reduceEq, Int.reduceNe, Int.reduceLT, Int.reduceLE, Int.reduceToNat, Int.reduceAdd, Int.reduceSub, Int.reduceMul, reduceCtorEq, decide_true, decide_false, Nat.zero_add, Nat.add_zero, Nat.zero_mul, Nat.sub_zero, Int.toNat_natCast, true_and, and_true, false_and, and_false, ne_eq, not_false_eq_true, not_true_eq_false, beq_self_eq_true, Bool.false_eq_true, Nat.le_refl, Nat.zero_le, f1, f2, r1, r2, w1, x0, x1, n0, n1, n2]
  have hne2 : hp ≠ id := at1.ne (by simp)
  simp only [go_sem, Option.isSome_some, ↓reduceIte, if_true, if_false, Nat.reduceEqDiff, Nat.reduceAdd, Nat.reduceMul, Nat.reduceSub, Nat.reduceLT, Nat.reduceLeDiff, Nat.reduceDiv, Nat.reduceMod, Nat.reduceBEq, Int.reduceNeg, Int.reduceEq, Int.reduceNe, Int.reduceLT, Int.reduceLE, Int.reduceToNat, Int.reduceAdd, Int.reduceSub, Int.reduceMul, reduceCtorEq, decide_true, decide_false, Nat.zero_add, Nat.add_zero, Nat.zero_mul, Nat.sub_zero, Int.toNat_natCast, true_and, and_true, false_and, and_false, ne_eq, not_false_eq_true, not_true_eq_false, beq_self_eq_true, Bool.false_eq_true, Nat.le_refl, Nat.zero_le, f1, f2, r1, r2, rowAt_ne hne2]
  have n3 : ((l.length - 1 : Nat) : Int) ≤ l.length := by omega
  simp only [go_sem, Option.isSome_some, ↓reduceIte, if_true, if_false, Nat.reduceEqDiff, Nat.reduceAdd, Nat.reduceMul, Nat.reduceSub, Nat.reduceLT, Nat.reduceLeDiff, Nat.reduceDiv, Nat.reduceMod, Nat.reduceBEq, Int.reduceNeg, Int.reduceEq, Int.reduceNe, Int.reduceLT, Int.reduceLE, Int.reduceToNat, Int.reduceAdd, Int.reduceSub, Int.reduceMul, reduceCtorEq, decide_true, decide_false, Nat.zero_add, Nat.add_zero, Nat.zero_mul, Nat.sub_zero, Int.toNat_natCast, true_and, and_true, false_and, and_false, ne_eq, not_false_eq_true, not_true_eq_false, beq_self_eq_true, Bool.false_eq_true, Nat.le_refl, Nat.zero_le, n1, n3, f1, f2, r1, r2, rowAt_ne hne2]
  -- the heap, one shorter
  have at2 := (at1.fresh hid2 (.row 0 false 2 [[.sc (.int .i64 (hg l 0).1), .sc (.int .i64 (hg l 0).2)]])).write 0 [.sc (.int .i64 (hg l (l.length - 1)).1), .sc (.int .i64 (hg l (l.length - 1)).2)] (by rw [pairs_len]; exact hpos)
  rw [Nat.add_zero, ← pairs_set] at at2
  have c2 := at2.acc.part rfl (l := 0) (k := l.length - 1) (Nat.zero_le _) (by rw [pairs_len, List.length_set]; omega)
  rw [Nat.add_zero, Nat.sub_zero, List.drop_zero, pairs_take] at c2
  have hne3 : hp ≠ id2 := fun e => by rw [e, hid2] at q1; cases q1
  have c3 := (c2.other (id := hp) (by simp) (.row 0 false 1 [[.sl id ver off (l.length - 1) 2]])).less (o2 := hp :: id2 :: others) (fun y hy => by simp at hy ⊢; rcases hy with h | h | h <;> simp [h])
  generalize hσ : (((σ.set id2 (.row 0 false 2 [[.sc (.int .i64 (hg l 0).1), .sc (.int .i64 (hg l 0).2)]])).set id (.row ver false 2 (xs.set off [.sc (.int .i64 (hg l (l.length - 1)).1), .sc (.int .i64 (hg l (l.length - 1)).2)]))).set hp (.row 0 false 1 [[.sl id ver off (l.length - 1) 2]])) = σ4 at *
  have g1 : σ4.get hp = some (.row 0 false 1 [[.sl id ver off (l.length - 1) 2]]) := by rw [← hσ]; simp
  have hne4 : id2 ≠ id := fun e => by rw [e] at hid2; have := at1.row; simp [Ab.rowAt, hid2] at this
  have g2 : σ4.get id2 = some (.row 0 false 2 [[.sc (.int .i64 (hg l 0).1), .sc (.int .i64 (hg l 0).2)]]) := by
    rw [← hσ, Store.get_set_ne _ _ (fun e => hne3 e.symm), Store.get_set_ne _ _ hne4, Store.get_set_self]
  have g3 : ∀ j ∈ others, σ4.get j = σ.get j := fun j hj => by
    rw [← hσ, Store.get_set_ne _ _ (fun e : j = hp => h0 (by rw [← e]; exact hj)), Store.get_set_ne _ _ (at1.ne (by simp [hj])), get_fresh hid2 (at1.alive j (by simp [hj]))]
  have hp0 : hp ∉ id2 :: others := by
    intro hm
    rcases List.mem_cons.1 hm with e | e
    · exact hne3 e
    · exact h0 e
  refine loop_rule (fun m fr σ2 => ∃ (i f : Nat) (l2 : List (Int × Int)), m = l2.length - i ∧ fr = [(0, .ptr hp 0 0 0), (5, .ptr id2 0 0 0), (7, .i i)] ∧ (i < l2.length ∨ i = 0) ∧ l2.length + 1 ≤ f + i ∧ l2.length < l.length ∧ HeapAt σ2 hp l2 (id2 :: others) ∧ (∀ j ∈ id2 :: others, σ2.get j = σ4.get j) ∧ siftDown f l2 i = popped l)
    (l.length - 1) ⟨0, l.length, (l.set 0 (hg l (l.length - 1))).take (l.length - 1), by simp, rfl, .inr rfl, by simp; omega, by simp; omega, ⟨hp0, _, g1, c3⟩, fun _ _ => rfl, rfl⟩ ?_
  rintro m fr σ2 ⟨i, f, l2, rfl, rfl, hi, hf, hl2, hh, q3, q4⟩
  simp only [go_sem, Option.isSome_some, ↓reduceIte, if_true, if_false, Nat.reduceEqDiff, Nat.reduceAdd, Nat.reduceMul, Nat.reduceSub, Nat.reduceLT, Nat.reduceLeDiff, Nat.reduceDiv, Nat.reduceMod, Nat.reduceBEq, Int.reduceNeg, Int.reduceEq, Int.reduceNe, Int.reduceLT, Int.reduceLE, Int.reduceToNat, Int.reduceAdd, Int.reduceSub, Int.reduceMul, reduceCtorEq, decide_true, decide_false, Nat.zero_add, Nat.add_zero, Nat.zero_mul, Nat.sub_zero, Int.toNat_natCast, true_and, and_true, false_and, and_false, ne_eq, not_false_eq_true, not_true_eq_false, beq_self_eq_true, Bool.false_eq_true, Nat.le_refl, Nat.zero_le]
  refine good_out 4 (outL2 (heap_out hh) out_sc) (least_ok l2 i (by omega) (by omega)) rfl ?_
  simp only [go_sem, Option.isSome_some, ↓reduceIte, if_true, if_false, Nat.reduceEqDiff, Nat.reduceAdd, Nat.reduceMul, Nat.reduceSub, Nat.reduceLT, Nat.reduceLeDiff, Nat.reduceDiv, Nat.reduceMod, Nat.reduceBEq, Int.reduceNeg, Int.reduceEq, Int.reduceNe, Int.reduceLT, Int.reduceLE, Int.reduceToNat, Int.reduceAdd, Int.reduceSub, Int.reduceMul, reduceCtorEq, decide_true, decide_false, Nat.zero_add, Nat.add_zero, Nat.zero_mul, Nat.sub_zero, Int.toNat_natCast, true_and, and_true, false_and, and_false, ne_eq, not_false_eq_true, not_true_eq_false, beq_self_eq_true, Bool.false_eq_true, Nat.le_refl, Nat.zero_le]
  obtain ⟨le1, le2⟩ := leastOf_le l2 i
  obtain ⟨f', rfl⟩ : ∃ f', f = f' + 1 := ⟨f - 1, by omega⟩
  have r5 := rowAt_get ((q3 id2 (by simp)).trans g2)
  by_cases h3 : leastOf l2 i = i
  · have h3' : ((leastOf l2 i : Nat) : Int) = i := by omega
    simp only [go_sem, Option.isSome_some, ↓reduceIte, if_true, if_false, Nat.reduceEqDiff, Nat.reduceAdd, Nat.reduceMul, Nat.reduceSub, Nat.reduceLT, Nat.reduceLeDiff, Nat.reduceDiv, Nat.reduceMod, Nat.reduceBEq, Int.reduceNeg, Int.reduceEq, Int.reduceNe, Int.reduceLT, Int.reduceLE, Int.reduceToNat, Int.reduceAdd, Int.reduceSub, Int.reduceMul, reduceCtorEq, decide_true, decide_false, Nat.zero_add, Nat.add_zero, Nat.zero_mul, Nat.sub_zero, Int.toNat_natCast, true_and, and_true, false_and, and_false, ne_eq, not_false_eq_true, not_true_eq_false, beq_self_eq_true, Bool.false_eq_true, Nat.le_refl, Nat.zero_le, h3']
    unfold op52_51
    simp only [go_sem, Option.isSome_some, ↓reduceIte, if_true, if_false, Nat.reduceEqDiff, Nat.reduceAdd, Nat.reduceMul, Nat.reduceSub, Nat.reduceLT, Nat.reduceLeDiff, Nat.reduceDiv, Nat.reduceMod, Nat.reduceBEq, Int.reduceNeg, Int.reduceEq, Int.reduceNe, Int.reduceLT, Int.reduceLE, Int.reduceToNat, Int.reduceAdd, Int.reduceSub, Int.reduceMul, reduceCtorEq, decide_true, decide_false, Nat.zero_add, Nat.add_zero, Nat.zero_mul, Nat.sub_zero, Int.toNat_natCast, true_and, and_true, false_and, and_false, ne_eq, not_false_eq_true, not_true_eq_false, beq_self_eq_true, Bool.false_eq_true, Nat.le_refl, Nat.zero_le, r5]
    unfold siftDown at q4
    rw [if_pos h3] at q4
    obtain ⟨_, v2, k1, k2⟩ := hh
    exact ⟨⟨h0, v2, by rw [← q4]; exact ⟨k1, k2.less (fun y hy => by simp at hy ⊢; rcases hy with h | h <;> simp [h])⟩⟩, fun j hj => by rw [q3 j (by simp [hj]), g3 j hj]⟩
  · have h3' : ¬ ((leastOf l2 i : Nat) : Int) = i := by omega
    simp only [go_sem, Option.isSome_some, ↓reduceIte, if_true, if_false, Nat.reduceEqDiff, Nat.reduceAdd, Nat.reduceMul, Nat.reduceSub, Nat.reduceLT, Nat.reduceLeDiff, Nat.reduceDiv, Nat.reduceMod, Nat.reduceBEq, Int.reduceNeg, Int.reduceEq, Int.reduceNe, Int.reduceLT, Int.reduceLE, Int.reduceToNat, Int.reduceAdd, Int.reduceSub, Int.reduceMul, reduceCtorEq, decide_true, decide_false, Nat.zero_add, Nat.add_zero, Nat.zero_mul, Nat.sub_zero, Int.toNat_natCast, true_and, and_true, false_and, and_false, ne_eq, not_false_eq_true, not_true_eq_false, beq_self_eq_true, Bool.false_eq_true, Nat.le_refl, Nat.zero_le, h3']
    unfold op52_55
    have hkl := le2 h3
    have hil : i < l2.length := by omega
    obtain ⟨_, v2, k1, k2⟩ := hh
    obtain ⟨id3, ver3, off3, xs3, rfl, at3⟩ := k2.at (by rw [pairs_len]; omega)
    generalize hk : leastOf l2 i = kk at *
    have r3 := rowAt_get k1
    have r4 := at3.row
    have x3 := at3.get (hg_row hil)
    have x4 := at3.get (hg_row hkl)
    have n4 : (0 : Int) ≤ i := by omega
    have n5 : (0 : Int) ≤ kk := by omega
    have n6 : (i : Int) < l2.length := by omega
    have n7 : (kk : Int) < l2.length := by omega
    have hne5 : ¬ (off3 + i = off3 + kk) := by omega
    have c4 := at3.write i [.sc (.int .i64 (hg l2 kk).1), .sc (.int .i64 (hg l2 kk).2)] (by rw [pairs_len]; exact hil)
    have x5 : (xs3.set (off3 + i) [.sc (.int .i64 (hg l2 kk).1), .sc (.int .i64 (hg l2 kk).2)])[off3 + kk]? = some [.sc (.int .i64 (hg l2 kk).1), .sc (.int .i64 (hg l2 kk).2)] := by
      rw [List.getElem?_set_ne hne5]; exact x4
    have c5 := c4.write kk [.sc (.int .i64 (hg l2 i).1), .sc (.int .i64 (hg l2 i).2)] (by rw [List.length_set, pairs_len]; exact hkl)
    have hne6 : hp ≠ id3 := at3.ne (by simp)
    simp only [go_sem, Option.isSome_some, ↓reduceIte, if_true, if_false, Nat.reduceEqDiff, Nat.reduceAdd, Nat.reduceMul, Nat.reduceSub, Nat.reduceLT, Nat.reduceLeDiff, Nat.reduceDiv, Nat.reduceMod, Nat.reduceBEq, Int.reduceNeg, Int.reduceEq, Int.reduceNe, Int.reduceLT, Int.reduceLE, Int.reduceToNat, Int.reduceAdd, Int.reduceSub, Int.reduceMul, reduceCtorEq, decide_true, decide_false, Nat.zero_add, Nat.add_zero, Nat.zero_mul, Nat.sub_zero, Int.toNat_natCast, true_and, and_true, false_and, and_false, ne_eq, not_false_eq_true, not_true_eq_false, beq_self_eq_true, Bool.false_eq_true, Nat.le_refl, Nat.zero_le, r3, r4, n4, n5, n6, n7, x3, x4, x5, rowAt_ne hne6]
    rw [← pairs_set, ← pairs_set] at c5
    simp only [Store.set_set] at c5
    refine back_of _ ?_ ⟨kk, f', hswap l2 i kk, rfl, rfl, .inl (by rw [hswap_len]; exact hkl), by rw [hswap_len]; omega, by rw [hswap_len]; omega, ⟨hp0, _, ?_, c5.acc⟩, fun j hj => ?_, ?_⟩
    · rw [hswap_len]; omega
    · rw [Store.get_set_ne _ _ hne6, k1]
      simp [hswap, pairs]
    · rw [Store.get_set_ne _ _ (at3.ne (by simp at hj ⊢; rcases hj with h | h <;> simp [h])), q3 j hj]
    · rw [← q4]
      conv => rhs; unfold siftDown
      rw [hk, if_neg h3]
end Go.Proofs

set_option linter.unusedVariables false
namespace Go.Proofs
/-! ### The heap's plain law -/
theorem hg_eq {l : List (Int × Int)} {i : Nat} (h : i < l.length) : hg l i = l[i] := by simp [hg, h]
theorem hswap_perm {l : List (Int × Int)} {i j : Nat} (hi : i < l.length) (hj : j < l.length) : (hswap l i j).Perm l := by
  unfold hswap
  rw [hg_eq hi, hg_eq hj]
  exact List.set_set_perm hi hj
theorem siftUp_perm : ∀ (f : Nat) (l : List (Int × Int)) (i : Nat), i < l.length → (siftUp f l i).Perm l
  | 0, l, i, h => List.Perm.refl _
  | f + 1, l, i, h => by
    unfold siftUp
    split
    · exact List.Perm.refl _
    · split
      · exact (siftUp_perm f _ _ (by rw [hswap_len]; omega)).trans (hswap_perm h (by omega))
      · exact List.Perm.refl _
theorem siftDown_perm : ∀ (f : Nat) (l : List (Int × Int)) (i : Nat), (siftDown f l i).Perm l
  | 0, l, i => List.Perm.refl _
  | f + 1, l, i => by
    unfold siftDown
    split
    · exact List.Perm.refl _
    · rename_i h
      obtain ⟨h1, h2⟩ := leastOf_le l i
      have h3 := h2 h
      exact (siftDown_perm f _ _).trans (hswap_perm (by omega) h3)
theorem popped_perm {l : List (Int × Int)} (h : l ≠ []) : (hg l 0 :: popped l).Perm l := by
  match l, h with
  | x :: r, _ =>
    have e0 : hg (x :: r) 0 = x := rfl
    rw [e0]
    refine List.Perm.cons x ?_
    refine (siftDown_perm _ _ _).trans ?_
    by_cases hr : r = []
    · subst hr; simp
    · have e1 : hg (x :: r) ((x :: r).length - 1) = r.getLast hr := by
        rw [hg_eq (by simp)]
        rw [List.getLast_eq_getElem]
        simp only [List.length_cons, Nat.add_sub_cancel]
        rw [List.getElem_cons]
        have : r.length ≠ 0 := fun e => hr (List.eq_nil_of_length_eq_zero e)
        simp [this]
      rw [e1]
      simp only [List.set_cons_zero, List.length_cons, Nat.add_sub_cancel]
      obtain ⟨k, hk⟩ : ∃ k, r.length = k + 1 := ⟨r.length - 1, by
        have : r.length ≠ 0 := fun e => hr (List.eq_nil_of_length_eq_zero e)
        omega⟩
      rw [hk, List.take_succ_cons]
      have e2 : r.take k = r.dropLast := by rw [List.dropLast_eq_take, hk]; rfl
      rw [e2]
      refine (List.perm_append_singleton _ _).symm.trans ?_
      rw [List.dropLast_concat_getLast hr]
theorem popped_len {l : List (Int × Int)} (h : l ≠ []) : (popped l).length + 1 = l.length := by
  have := (popped_perm h).length_eq
  simpa using this
theorem hg0_mem {l : List (Int × Int)} (h : l ≠ []) : hg l 0 ∈ l := (popped_perm h).mem_iff.1 (by simp)
theorem popped_mem {l : List (Int × Int)} {x : Int × Int} (hx : x ∈ popped l) : x ∈ l := by
  by_cases h : l = []
  · subst h
    simp [popped, siftDown] at hx
  · exact (popped_perm h).mem_iff.1 (by simp [hx])
end Go.Proofs

set_option linter.unusedSimpArgs false
set_option linter.unusedVariables false
namespace Go.Proofs
open Go.Ab

theorem HeapAt.other {σ : Store} {hp : Nat} {l : List (Int × Int)} {others : List Nat} (h : HeapAt σ hp l others) {j : Nat} (hj : j ∈ others) (o : Ab.Obj) : HeapAt (σ.set j o) hp l others := by
  obtain ⟨h0, v, h1, h2⟩ := h
  exact ⟨h0, v, by rw [Store.get_set_ne _ _ (fun e : hp = j => h0 (by rw [e]; exact hj))]; exact h1, h2.other (by simp [hj]) o⟩

def Gr.metric (g : Gr) (e : Int) : Int := match g.ls[(e / 2).toNat]? with
  | some l => l.m
  | none => 0
def hpush (h : List (Int × Int)) (k v : Int) : List (Int × Int) := siftUp (h.length + 1) (h ++ [(k, v)]) h.length
def relax1 (g : Gr) (down : List Bool) (far : Int) (out : List Int) (h : List (Int × Int)) (e : Int) : List (Int × Int) :=
  if isUp down e = true ∧ out.getD (g.ends e).2.1.toNat 0 = -1 then hpush h (far + g.metric e) (g.ends e).2.1 else h
def dij (g : Gr) (down : List Bool) : Nat → List (Int × Int) → List Int → List Int
  | 0, _, out => out
  | f + 1, h, out => if h = [] then out else
    if out.getD (hg h 0).2.toNat 0 = -1 then dij g down f ((g.out (hg h 0).2).foldl (relax1 g down (hg h 0).1 (out.set (hg h 0).2.toNat (hg h 0).1)) (popped h)) (out.set (hg h 0).2.toNat (hg h 0).1)
    else dij g down f (popped h) out
def unset (out : List Int) : Nat := out.count (-1)
def spfFuel (g : Gr) : Nat := g.n.toNat * (2 * g.ls.length + 2) + 2
def spfFrom (g : Gr) (down : List Bool) (node : Int) : List Int :=
  if g.check.2 = 0 ∧ 0 ≤ node ∧ node < g.n then dij g down (spfFuel g) (hpush [] 0 node) (List.replicate g.n.toNat (-1)) else []

theorem Gr.mem_out {g : Gr} {x e : Int} (h : e ∈ g.out x) : 0 ≤ e ∧ e < 2 * (g.ls.length : Int) ∧ (g.ends e).1 = x := by
  unfold Gr.out Gr.outN at h
  rw [List.mem_filterMap] at h
  obtain ⟨k, h1, h2⟩ := h
  rw [List.mem_range] at h1
  split at h2
  · rename_i h3
    injection h2 with h2
    subst h2
    exact ⟨by omega, by omega, h3⟩
  · cases h2
theorem Gr.out_len (g : Gr) (x : Int) : (g.out x).length ≤ 2 * g.ls.length := g.outN_len x _
theorem Gr.link_of {g : Gr} (hg : g.Ok) {l : Lk} (hl : l ∈ g.ls) : (0 ≤ l.a ∧ l.a < g.n) ∧ (0 ≤ l.b ∧ l.b < g.n) ∧ l.a ≠ l.b ∧ 1 ≤ l.m ∧ l.m ≤ 16777216 := by
  have := hg.2.2.2 l hl
  unfold Gr.linkErr at this
  split at this
  · omega
  · split at this
    · omega
    · omega
theorem Gr.ends_of {g : Gr} (hg : g.Ok) {e : Int} (h0 : 0 ≤ e) (h1 : e < 2 * (g.ls.length : Int)) : (0 ≤ (g.ends e).1 ∧ (g.ends e).1 < g.n) ∧ (0 ≤ (g.ends e).2.1 ∧ (g.ends e).2.1 < g.n) ∧ (g.ends e).2.2 = true ∧ (g.ends e).1 ≠ (g.ends e).2.1 := by
  have hlt : (e / 2).toNat < g.ls.length := by omega
  have hl := g.link_of hg (List.getElem_mem hlt)
  unfold Gr.ends
  rw [if_neg (by omega), List.getElem?_eq_getElem hlt]
  simp only
  split
  · exact ⟨hl.2.1, hl.1, rfl, fun h => hl.2.2.1 h.symm⟩
  · exact ⟨hl.1, hl.2.1, rfl, hl.2.2.1⟩
theorem Gr.metric_of {g : Gr} (hg : g.Ok) {e : Int} (h0 : 0 ≤ e) (h1 : e < 2 * (g.ls.length : Int)) : 1 ≤ g.metric e ∧ g.metric e ≤ 16777216 := by
  have hlt : (e / 2).toNat < g.ls.length := by omega
  have hl := g.link_of hg (List.getElem_mem hlt)
  unfold Gr.metric
  rw [List.getElem?_eq_getElem hlt]
  exact hl.2.2.2
theorem hpush_perm (h : List (Int × Int)) (k v : Int) : (hpush h k v).Perm (h ++ [(k, v)]) := siftUp_perm _ _ _ (by simp)
theorem hpush_len (h : List (Int × Int)) (k v : Int) : (hpush h k v).length = h.length + 1 := by simpa using (hpush_perm h k v).length_eq
theorem hpush_mem {h : List (Int × Int)} {k v : Int} {p : Int × Int} (hp : p ∈ hpush h k v) : p ∈ h ∨ p = (k, v) := by
  have := (hpush_perm h k v).mem_iff.1 hp
  simpa using this
theorem unset_le (out : List Int) : unset out ≤ out.length := List.count_le_length
theorem unset_set {out : List Int} {i : Nat} {x : Int} (hi : i < out.length) (h1 : out.getD i 0 = -1) (hx : 0 ≤ x) : unset (out.set i x) + 1 = unset out := by
  unfold unset
  rw [List.count_set hi]
  have e : out[i] = -1 := by simpa [hi] using h1
  have hpos : 0 < out.count (-1) := List.count_pos_iff.2 (e ▸ List.getElem_mem hi)
  have hx' : ¬ (x = -1) := by omega
  simp [e, hx']
  omega

theorem spf_from_ok (g : Gr) (down : List Bool) (node : Int) : PGood Try.prog 34 [g.val, .lst (bools down), .i node] (.lst (ints (spfFrom g down node))) := by
  refine pgood_of_out 2 (good_of_wp isF34 (Nat.le_refl _) ?_)
  unfold ac34
  simp only [go_sem, Option.isSome_some, ↓reduceIte, if_true, if_false, Nat.reduceEqDiff, Nat.reduceAdd, Nat.reduceMul, Nat.reduceSub, Nat.reduceLT, Nat.reduceLeDiff, Nat.reduceDiv, Nat.reduceMod, Nat.reduceBEq, Int.reduceNeg, Int.reduceEq, Int.reduceNe, Int.reduceLT, Int.reduceLE, Int.reduceToNat, Int.reduceAdd, Int.reduceSub, Int.reduceMul, reduceCtorEq, decide_true, decide_false, Nat.zero_add, Nat.add_zero, Nat.zero_mul, Nat.sub_zero, Int.toNat_natCast, true_and, and_true, false_and, and_false, ne_eq, not_false_eq_true, not_true_eq_false, beq_self_eq_true, Bool.false_eq_true, Nat.le_refl, Nat.zero_le, Gr.val]
  intro gid hgid
  simp only [go_sem, Option.isSome_some, ↓reduceIte, if_true, if_false, Nat.reduceEqDiff, Nat.reduceAdd, Nat.reduceMul, Nat.reduceSub, Nat.reduceLT, Nat.reduceLeDiff, Nat.reduceDiv, Nat.reduceMod, Nat.reduceBEq, Int.reduceNeg, Int.reduceEq, Int.reduceNe, Int.reduceLT, Int.reduceLE, Int.reduceToNat, Int.reduceAdd, Int.reduceSub, Int.reduceMul, reduceCtorEq, decide_true, decide_false, Nat.zero_add, Nat.add_zero, Nat.zero_mul, Nat.sub_zero, Int.toNat_natCast, true_and, and_true, false_and, and_false, ne_eq, not_false_eq_true, not_true_eq_false, beq_self_eq_true, Bool.false_eq_true, Nat.le_refl, Nat.zero_le]
  refine good_imm (right_ok g) rfl ?_
  simp only [go_sem, Option.isSome_some, ↓reduceIte, if_true, if_false, Nat.reduceEqDiff, Nat.reduceAdd, Nat.reduceMul, Nat.reduceSub, Nat.reduceLT, Nat.reduceLeDiff, Nat.reduceDiv, Nat.reduceMod, Nat.reduceBEq, Int.reduceNeg, Int.reduceEq, Int.reduceNe, Int.reduceLT, Int.reduceLE, Int.reduceToNat, Int.reduceAdd, Int.reduceSub, Int.reduceMul, reduceCtorEq, decide_true, decide_false, Nat.zero_add, Nat.add_zero, Nat.zero_mul, Nat.sub_zero, Int.toNat_natCast, true_and, and_true, false_and, and_false, ne_eq, not_false_eq_true, not_true_eq_false, beq_self_eq_true, Bool.false_eq_true, Nat.le_refl, Nat.zero_le]
  by_cases hc : g.check.2 = 0
  case neg =>
    simp only [go_sem, Option.isSome_some, ↓reduceIte, if_true, if_false, Nat.reduceEqDiff, Nat.reduceAdd, Nat.reduceMul, Nat.reduceSub, Nat.reduceLT, Nat.reduceLeDiff, Nat.reduceDiv, Nat.reduceMod, Nat.reduceBEq, Int.reduceNeg, Int.reduceEq, Int.reduceNe, Int.reduceLT, Int.reduceLE, Int.reduceToNat, Int.reduceAdd, Int.reduceSub, Int.reduceMul, reduceCtorEq, decide_true, decide_false, Nat.zero_add, Nat.add_zero, Nat.zero_mul, Nat.sub_zero, Int.toNat_natCast, true_and, and_true, false_and, and_false, ne_eq, not_false_eq_true, not_true_eq_false, beq_self_eq_true, Bool.false_eq_true, Nat.le_refl, Nat.zero_le, hc]
    have e : spfFrom g down node = [] := by unfold spfFrom; rw [if_neg (fun h => hc h.1)]
    rw [e]
    exact out_nils
  simp only [go_sem, Option.isSome_some, ↓reduceIte, if_true, if_false, Nat.reduceEqDiff, Nat.reduceAdd, Nat.reduceMul, Nat.reduceSub, Nat.reduceLT, Nat.reduceLeDiff, Nat.reduceDiv, Nat.reduceMod, Nat.reduceBEq, Int.reduceNeg, Int.reduceEq, Int.reduceNe, Int.reduceLT, Int.reduceLE, Int.reduceToNat, Int.reduceAdd, Int.reduceSub, Int.reduceMul, reduceCtorEq, decide_true, decide_false, Nat.zero_add, Nat.add_zero, Nat.zero_mul, Nat.sub_zero, Int.toNat_natCast, true_and, and_true, false_and, and_false, ne_eq, not_false_eq_true, not_true_eq_false, beq_self_eq_true, Bool.false_eq_true, Nat.le_refl, Nat.zero_le, hc]
  refine good_imm (is_ok g.n (.lst (g.ls.map Lk.row)) node) rfl ?_
  simp only [go_sem, Option.isSome_some, ↓reduceIte, if_true, if_false, Nat.reduceEqDiff, Nat.reduceAdd, Nat.reduceMul, Nat.reduceSub, Nat.reduceLT, Nat.reduceLeDiff, Nat.reduceDiv, Nat.reduceMod, Nat.reduceBEq, Int.reduceNeg, Int.reduceEq, Int.reduceNe, Int.reduceLT, Int.reduceLE, Int.reduceToNat, Int.reduceAdd, Int.reduceSub, Int.reduceMul, reduceCtorEq, decide_true, decide_false, Nat.zero_add, Nat.add_zero, Nat.zero_mul, Nat.sub_zero, Int.toNat_natCast, true_and, and_true, false_and, and_false, ne_eq, not_false_eq_true, not_true_eq_false, beq_self_eq_true, Bool.false_eq_true, Nat.le_refl, Nat.zero_le]
  refine .intro (fun hn => ?_) (fun hn => ?_)
  case refine_2 =>
    simp only [go_sem, Option.isSome_some, ↓reduceIte, if_true, if_false, Nat.reduceEqDiff, Nat.reduceAdd, Nat.reduceMul, Nat.reduceSub, Nat.reduceLT, Nat.reduceLeDiff, Nat.reduceDiv, Nat.reduceMod, Nat.reduceBEq, Int.reduceNeg, Int.reduceEq, Int.reduceNe, Int.reduceLT, Int.reduceLE, Int.reduceToNat, Int.reduceAdd, Int.reduceSub, Int.reduceMul, reduceCtorEq, decide_true, decide_false, Nat.zero_add, Nat.add_zero, Nat.zero_mul, Nat.sub_zero, Int.toNat_natCast, true_and, and_true, false_and, and_false, ne_eq, not_false_eq_true, not_true_eq_false, beq_self_eq_true, Bool.false_eq_true, Nat.le_refl, Nat.zero_le]
    have e : spfFrom g down node = [] := by unfold spfFrom; rw [if_neg (fun h => hn h.2)]
    rw [e]
    exact out_nils
  obtain ⟨k1, k2, k3, k4⟩ := g.check_ok.1 hc
  have n1 : (0 : Int) ≤ g.n := by omega
  have n2 : g.n ≤ 9223372036854775807 := by omega
  have n3 : g.n.toNat * 8 ≤ 281474976710656 := by omega
  simp only [go_sem, Option.isSome_some, ↓reduceIte, if_true, if_false, Nat.reduceEqDiff, Nat.reduceAdd, Nat.reduceMul, Nat.reduceSub, Nat.reduceLT, Nat.reduceLeDiff, Nat.reduceDiv, Nat.reduceMod, Nat.reduceBEq, Int.reduceNeg, Int.reduceEq, Int.reduceNe, Int.reduceLT, Int.reduceLE, Int.reduceToNat, Int.reduceAdd, Int.reduceSub, Int.reduceMul, reduceCtorEq, decide_true, decide_false, Nat.zero_add, Nat.add_zero, Nat.zero_mul, Nat.sub_zero, Int.toNat_natCast, true_and, and_true, false_and, and_false, ne_eq, not_false_eq_true, not_true_eq_false, beq_self_eq_true, Bool.false_eq_true, Nat.le_refl, Nat.zero_le, n1, n2, n3]
  intro oid hoid
  have hne1 : gid ≠ oid := fun e => by rw [← e] at hoid; simp at hoid
  have e1 : spfFrom g down node = dij g down (spfFuel g) (hpush [] 0 node) (List.replicate g.n.toNat (-1)) := by unfold spfFrom; rw [if_pos ⟨hc, hn⟩]
  have grow : ∀ o, ((Store.empty.set gid (.row 0 false 2 [[.sc (.int .i64 g.n), .lst (g.ls.map Lk.row)]])).set oid o).get gid = some (.row 0 false 2 [[.sc (.int .i64 g.n), .lst (g.ls.map Lk.row)]]) := fun o => by
    rw [Store.get_set_ne _ _ hne1, Store.get_set_self]
  simp only [go_sem, Option.isSome_some, ↓reduceIte, if_true, if_false, Nat.reduceEqDiff, Nat.reduceAdd, Nat.reduceMul, Nat.reduceSub, Nat.reduceLT, Nat.reduceLeDiff, Nat.reduceDiv, Nat.reduceMod, Nat.reduceBEq, Int.reduceNeg, Int.reduceEq, Int.reduceNe, Int.reduceLT, Int.reduceLE, Int.reduceToNat, Int.reduceAdd, Int.reduceSub, Int.reduceMul, reduceCtorEq, decide_true, decide_false, Nat.zero_add, Nat.add_zero, Nat.zero_mul, Nat.sub_zero, Int.toNat_natCast, true_and, and_true, false_and, and_false, ne_eq, not_false_eq_true, not_true_eq_false, beq_self_eq_true, Bool.false_eq_true, Nat.le_refl, Nat.zero_le]
  refine loop_rule (fun m fr σ => ∃ (i : Nat) (out : List Int), i ≤ g.n.toNat ∧ m = g.n.toNat - i ∧ fr = [(1, .lst (bools down)), (2, .i node), (3, .ptr gid 0 0 0), (7, .sl oid 0 0 g.n.toNat 1), (31, .i g.n.toNat), (32, .i i)] ∧
    out = List.replicate i (-1) ++ List.replicate (g.n.toNat - i) 0 ∧ σ.get oid = some (.row 0 false 1 (ints out)) ∧ σ.get gid = some (.row 0 false 2 [[.sc (.int .i64 g.n), .lst (g.ls.map Lk.row)]])) g.n.toNat
    ⟨0, List.replicate g.n.toNat 0, by omega, by omega, rfl, by simp, by simp [ints_rep], grow _⟩ ?_
  rintro m fr σ ⟨i, out, h1, rfl, rfl, h2, h3, h4⟩
  have hlen : out.length = g.n.toNat := by rw [h2]; simp; omega
  simp only [go_sem, Option.isSome_some, ↓reduceIte, if_true, if_false, Nat.reduceEqDiff, Nat.reduceAdd, Nat.reduceMul, Nat.reduceSub, Nat.reduceLT, Nat.reduceLeDiff, Nat.reduceDiv, Nat.reduceMod, Nat.reduceBEq, Int.reduceNeg, Int.reduceEq, Int.reduceNe, Int.reduceLT, Int.reduceLE, Int.reduceToNat, Int.reduceAdd, Int.reduceSub, Int.reduceMul, reduceCtorEq, decide_true, decide_false, Nat.zero_add, Nat.add_zero, Nat.zero_mul, Nat.sub_zero, Int.toNat_natCast, true_and, and_true, false_and, and_false, ne_eq, not_false_eq_true, not_true_eq_false, beq_self_eq_true, Bool.false_eq_true, Nat.le_refl, Nat.zero_le]
  refine .intro (fun h => ?_) (fun h => ?_)
  · have hi : i < out.length := by omega
    have x1 : (ints out)[i]? = some [.sc (.int .i64 out[i])] := ints_get (List.getElem?_eq_getElem hi)
    have n4 : (0 : Int) ≤ i := by omega
    have n5 : (i : Int) < g.n.toNat := h
    have w1 : IntKind.i64.wrap ((i : Int) + 1) = ((i + 1 : Nat) : Int) := by rw [wrap_id (by omega) (by omega)]; rfl
    simp only [go_sem, Option.isSome_some, ↓reduceIte, if_true, if_false, Nat.reduceEqDiff, Nat.reduceAdd, Nat.reduceMul, Nat.reduceSub, Nat.reduceLT, Nat.reduceLeDiff, Nat.reduceDiv, Nat.reduceMod, Nat.reduceBEq, Int.reduceNeg, Int.reduceEq, Int.reduceNe, Int.reduceLT, Int.reduceLE, Int.reduceToNat, Int.reduceAdd, Int.reduceSub, Int.reduceMul, reduceCtorEq, decide_true, decide_false, Nat.zero_add, Nat.add_zero, Nat.zero_mul, Nat.sub_zero, Int.toNat_natCast, true_and, and_true, false_and, and_false, ne_eq, not_false_eq_true, not_true_eq_false, beq_self_eq_true, Bool.false_eq_true, Nat.le_refl, Nat.zero_le, n4, n5, rowAt_get h3, x1, w1]
    refine back_of _ ?_ ⟨i + 1, out.set i (-1), by omega, rfl, rfl, ?_, ?_, ?_⟩
    · omega
    · rw [h2, List.set_append_right _ _ (by simp), List.replicate_succ', List.length_replicate, Nat.sub_self]
      obtain ⟨k, hk⟩ : ∃ k, g.n.toNat - i = k + 1 := ⟨g.n.toNat - i - 1, by omega⟩
      rw [hk, show g.n.toNat - (i + 1) = k by omega, List.replicate_succ]
      simp
    · rw [Store.get_set_self, ints_set]
    · rw [Store.get_set_ne _ _ hne1, h4]
  · simp only [go_sem, Option.isSome_some, ↓reduceIte, if_true, if_false, Nat.reduceEqDiff, Nat.reduceAdd, Nat.reduceMul, Nat.reduceSub, Nat.reduceLT, Nat.reduceLeDiff, Nat.reduceDiv, Nat.reduceMod, Nat.reduceBEq, Int.reduceNeg, Int.reduceEq, Int.reduceNe, Int.reduceLT, Int.reduceLE, Int.reduceToNat, Int.reduceAdd, Int.reduceSub, Int.reduceMul, reduceCtorEq, decide_true, decide_false, Nat.zero_add, Nat.add_zero, Nat.zero_mul, Nat.sub_zero, Int.toNat_natCast, true_and, and_true, false_and, and_false, ne_eq, not_false_eq_true, not_true_eq_false, beq_self_eq_true, Bool.false_eq_true, Nat.le_refl, Nat.zero_le]
    have e : i = g.n.toNat := by omega
    subst e
    rw [Nat.sub_self, List.replicate_zero, List.append_nil] at h2
    intro hp hhp
    simp only [go_sem, Option.isSome_some, ↓reduceIte, if_true, if_false, Nat.reduceEqDiff, Nat.reduceAdd, Nat.reduceMul, Nat.reduceSub, Nat.reduceLT, Nat.reduceLeDiff, Nat.reduceDiv, Nat.reduceMod, Nat.reduceBEq, Int.reduceNeg, Int.reduceEq, Int.reduceNe, Int.reduceLT, Int.reduceLE, Int.reduceToNat, Int.reduceAdd, Int.reduceSub, Int.reduceMul, reduceCtorEq, decide_true, decide_false, Nat.zero_add, Nat.add_zero, Nat.zero_mul, Nat.sub_zero, Int.toNat_natCast, true_and, and_true, false_and, and_false, ne_eq, not_false_eq_true, not_true_eq_false, beq_self_eq_true, Bool.false_eq_true, Nat.le_refl, Nat.zero_le]
    have alive0 : Alive σ [oid, gid] := alive_cons h3 (alive_cons h4 alive_nil)
    have hh0 : HeapAt (σ.set hp (.row 0 false 1 [[.nils]])) hp [] [oid, gid] := ⟨alive0.not hhp, .nils, by simp, acc_nils (alive0.fresh hp _)⟩
    refine (push_ok _ hp [] [oid, gid] 0 node hh0 (by simp)).mono ?_
    rintro r σ1 ⟨hh1, fr1⟩
    simp only [go_sem, Option.isSome_some, ↓reduceIte, if_true, if_false, Nat.reduceEqDiff, Nat.reduceAdd, Nat.reduceMul, Nat.reduceSub, Nat.reduceLT, Nat.reduceLeDiff, Nat.reduceDiv, Nat.reduceMod, Nat.reduceBEq, Int.reduceNeg, Int.reduceEq, Int.reduceNe, Int.reduceLT, Int.reduceLE, Int.reduceToNat, Int.reduceAdd, Int.reduceSub, Int.reduceMul, reduceCtorEq, decide_true, decide_false, Nat.zero_add, Nat.add_zero, Nat.zero_mul, Nat.sub_zero, Int.toNat_natCast, true_and, and_true, false_and, and_false, ne_eq, not_false_eq_true, not_true_eq_false, beq_self_eq_true, Bool.false_eq_true, Nat.le_refl, Nat.zero_le]
    have o1 := fr1 oid (by simp)
    rw [get_fresh hhp (by rw [h3]; rfl), h3] at o1
    have g1 := fr1 gid (by simp)
    rw [get_fresh hhp (by rw [h4]; rfl), h4] at g1
    have hU : unset out = g.n.toNat := by rw [h2]; simp [unset]
    have hok : g.Ok := ⟨k1, k2, k3, k4⟩
    refine loop_rule (fun m fr σ => ∃ (f : Nat) (h : List (Int × Int)) (out : List Int), m = unset out * (2 * g.ls.length + 2) + h.length ∧ fr = [(1, .lst (bools down)), (3, .ptr gid 0 0 0), (7, .sl oid 0 0 g.n.toNat 1), (9, .ptr hp 0 0 0)] ∧ out.length = g.n.toNat ∧
      HeapAt σ hp h [oid, gid] ∧ σ.get oid = some (.row 0 false 1 (ints out)) ∧ σ.get gid = some (.row 0 false 2 [[.sc (.int .i64 g.n), .lst (g.ls.map Lk.row)]]) ∧
      (∀ p ∈ h, (0 ≤ p.2 ∧ p.2 < g.n) ∧ 0 ≤ p.1 ∧ p.1 ≤ ((g.n.toNat - unset out : Nat) : Int) * 16777216) ∧ h.length ≤ (g.n.toNat - unset out) * (2 * g.ls.length) + 1 ∧
      unset out * (2 * g.ls.length + 2) + h.length < f ∧ dij g down f h out = spfFrom g down node) _
      ⟨spfFuel g, hpush [] 0 node, out, rfl, rfl, hlen, hh1, o1, g1, fun p hp => ?_, by rw [hpush_len]; simp, by rw [hpush_len, hU]; unfold spfFuel; simp, by rw [e1, h2]⟩ ?_
    · rcases hpush_mem hp with h | h
      · cases h
      · subst h; exact ⟨hn, by simp; omega⟩
    clear h h2 h3 h4 hlen hU hh0 hh1 fr1 o1 g1
    rintro m fr σ2 ⟨f, h, out, rfl, rfl, hlen, hh, o1, g1, hb, hcap, hf, hd⟩
    simp only [go_sem, Option.isSome_some, ↓reduceIte, if_true, if_false, Nat.reduceEqDiff, Nat.reduceAdd, Nat.reduceMul, Nat.reduceSub, Nat.reduceLT, Nat.reduceLeDiff, Nat.reduceDiv, Nat.reduceMod, Nat.reduceBEq, Int.reduceNeg, Int.reduceEq, Int.reduceNe, Int.reduceLT, Int.reduceLE, Int.reduceToNat, Int.reduceAdd, Int.reduceSub, Int.reduceMul, reduceCtorEq, decide_true, decide_false, Nat.zero_add, Nat.add_zero, Nat.zero_mul, Nat.sub_zero, Int.toNat_natCast, true_and, and_true, false_and, and_false, ne_eq, not_false_eq_true, not_true_eq_false, beq_self_eq_true, Bool.false_eq_true, Nat.le_refl, Nat.zero_le]
    have hUle := unset_le out
    have hcap2 : h.length ≤ 40 * 240 + 1 := by
      refine Nat.le_trans hcap (Nat.add_le_add_right (Nat.mul_le_mul (by omega) (by omega)) 1)
    refine (pop_ok σ2 hp h [oid, gid] hh (by omega)).mono ?_
    rintro r σ3 hr
    obtain ⟨f', rfl⟩ : ∃ f', f = f' + 1 := ⟨f - 1, by omega⟩
    by_cases hnil : h = []
    · rw [if_pos hnil] at hr
      obtain ⟨rfl, hh3, fr3⟩ := hr
      simp only [go_sem, Option.isSome_some, ↓reduceIte, if_true, if_false, Nat.reduceEqDiff, Nat.reduceAdd, Nat.reduceMul, Nat.reduceSub, Nat.reduceLT, Nat.reduceLeDiff, Nat.reduceDiv, Nat.reduceMod, Nat.reduceBEq, Int.reduceNeg, Int.reduceEq, Int.reduceNe, Int.reduceLT, Int.reduceLE, Int.reduceToNat, Int.reduceAdd, Int.reduceSub, Int.reduceMul, reduceCtorEq, decide_true, decide_false, Nat.zero_add, Nat.add_zero, Nat.zero_mul, Nat.sub_zero, Int.toNat_natCast, true_and, and_true, false_and, and_false, ne_eq, not_false_eq_true, not_true_eq_false, beq_self_eq_true, Bool.false_eq_true, Nat.le_refl, Nat.zero_le]
      have o3 := (fr3 oid (by simp)).trans o1
      unfold dij at hd
      rw [if_pos hnil] at hd
      rw [← hd]
      exact out_sl (rowAt_get o3) (by rw [ints_len]; omega) (by rw [List.drop_zero, ← hlen, ← ints_len, List.take_length]) (ints_sc _)
    · rw [if_neg hnil] at hr
      obtain ⟨rfl, hh3, fr3⟩ := hr
      have o3 := (fr3 oid (by simp)).trans o1
      have g3 := (fr3 gid (by simp)).trans g1
      obtain ⟨hb1, hb2, hb3⟩ := hb _ (hg0_mem hnil)
      have hplen := popped_len hnil
      unfold dij at hd
      rw [if_neg hnil] at hd
      generalize hfar : (hg h 0).1 = far at *
      generalize hat : (hg h 0).2 = at_ at *
      have hi : at_.toNat < out.length := by omega
      have x1 : (ints out)[at_.toNat]? = some [.sc (.int .i64 (out.getD at_.toNat 0))] := ints_get (by simp [hi])
      have m1 : at_ < (g.n.toNat : Int) := by omega
      simp only [go_sem, Option.isSome_some, ↓reduceIte, if_true, if_false, Nat.reduceEqDiff, Nat.reduceAdd, Nat.reduceMul, Nat.reduceSub, Nat.reduceLT, Nat.reduceLeDiff, Nat.reduceDiv, Nat.reduceMod, Nat.reduceBEq, Int.reduceNeg, Int.reduceEq, Int.reduceNe, Int.reduceLT, Int.reduceLE, Int.reduceToNat, Int.reduceAdd, Int.reduceSub, Int.reduceMul, reduceCtorEq, decide_true, decide_false, Nat.zero_add, Nat.add_zero, Nat.zero_mul, Nat.sub_zero, Int.toNat_natCast, true_and, and_true, false_and, and_false, ne_eq, not_false_eq_true, not_true_eq_false, beq_self_eq_true, Bool.false_eq_true, Nat.le_refl, Nat.zero_le, hb1.1, m1, rowAt_get o3, x1]
      by_cases hset : out.getD at_.toNat 0 = -1
      · rw [if_pos hset] at hd
        simp only [go_sem, Option.isSome_some, ↓reduceIte, if_true, if_false, Nat.reduceEqDiff, Nat.reduceAdd, Nat.reduceMul, Nat.reduceSub, Nat.reduceLT, Nat.reduceLeDiff, Nat.reduceDiv, Nat.reduceMod, Nat.reduceBEq, Int.reduceNeg, Int.reduceEq, Int.reduceNe, Int.reduceLT, Int.reduceLE, Int.reduceToNat, Int.reduceAdd, Int.reduceSub, Int.reduceMul, reduceCtorEq, decide_true, decide_false, Nat.zero_add, Nat.add_zero, Nat.zero_mul, Nat.sub_zero, Int.toNat_natCast, true_and, and_true, false_and, and_false, ne_eq, not_false_eq_true, not_true_eq_false, beq_self_eq_true, Bool.false_eq_true, Nat.le_refl, Nat.zero_le, hset, hb1.1, m1, rowAt_get o3, x1, rowAt_ne hne1, rowAt_get g3]
        refine good_imm (out_ok g at_ (by omega)) rfl ?_
        simp only [go_sem, Option.isSome_some, ↓reduceIte, if_true, if_false, Nat.reduceEqDiff, Nat.reduceAdd, Nat.reduceMul, Nat.reduceSub, Nat.reduceLT, Nat.reduceLeDiff, Nat.reduceDiv, Nat.reduceMod, Nat.reduceBEq, Int.reduceNeg, Int.reduceEq, Int.reduceNe, Int.reduceLT, Int.reduceLE, Int.reduceToNat, Int.reduceAdd, Int.reduceSub, Int.reduceMul, reduceCtorEq, decide_true, decide_false, Nat.zero_add, Nat.add_zero, Nat.zero_mul, Nat.sub_zero, Int.toNat_natCast, true_and, and_true, false_and, and_false, ne_eq, not_false_eq_true, not_true_eq_false, beq_self_eq_true, Bool.false_eq_true, Nat.le_refl, Nat.zero_le]
        generalize hout : out.set at_.toNat far = out' at *
        have hset' : (ints out).set at_.toNat [AVal.sc (.int .i64 far)] = ints out' := by rw [← hout, ints_set]
        rw [hset']
        have hU' : unset out' + 1 = unset out := by rw [← hout]; exact unset_set hi hset hb2
        have hlen' : out'.length = g.n.toNat := by rw [← hout]; simpa using hlen
        have hol := g.out_len at_
        have hbound : ∀ p ∈ popped h, (0 ≤ p.2 ∧ p.2 < g.n) ∧ 0 ≤ p.1 ∧ p.1 ≤ ((g.n.toNat - unset out' : Nat) : Int) * 16777216 := fun p hp => by
          obtain ⟨a1, a2, a3⟩ := hb p (popped_mem hp)
          exact ⟨a1, a2, by omega⟩
        have hfb : far ≤ ((g.n.toNat - unset out' : Nat) : Int) * 16777216 - 16777216 := by omega
        refine loop_rule (fun m fr σ => ∃ (j : Nat) (h2 : List (Int × Int)), j ≤ (g.out at_).length ∧ m = (g.out at_).length - j ∧ fr = [(1, .lst (bools down)), (3, .ptr gid 0 0 0), (7, .sl oid 0 0 g.n.toNat 1), (9, .ptr hp 0 0 0), (10, .i far), (64, .lst (ints (g.out at_))), (65, .i (g.out at_).length), (66, .i j)] ∧
          h2 = ((g.out at_).take j).foldl (relax1 g down far out') (popped h) ∧
          HeapAt σ hp h2 [oid, gid] ∧ σ.get oid = some (.row 0 false 1 (ints out')) ∧ σ.get gid = some (.row 0 false 2 [[.sc (.int .i64 g.n), .lst (g.ls.map Lk.row)]]) ∧
          (∀ p ∈ h2, (0 ≤ p.2 ∧ p.2 < g.n) ∧ 0 ≤ p.1 ∧ p.1 ≤ ((g.n.toNat - unset out' : Nat) : Int) * 16777216) ∧ h2.length ≤ (popped h).length + j) _
          ⟨0, popped h, by omega, rfl, rfl, rfl, hh3.other (by simp) _, by simp, by rw [Store.get_set_ne _ _ hne1, g3], hbound, by omega⟩ ?_
        rintro m fr σ4 ⟨j, h2, hj, rfl, rfl, hh2, hh4, o4, g4, hb4, hl4⟩
        simp only [go_sem, Option.isSome_some, ↓reduceIte, if_true, if_false, Nat.reduceEqDiff, Nat.reduceAdd, Nat.reduceMul, Nat.reduceSub, Nat.reduceLT, Nat.reduceLeDiff, Nat.reduceDiv, Nat.reduceMod, Nat.reduceBEq, Int.reduceNeg, Int.reduceEq, Int.reduceNe, Int.reduceLT, Int.reduceLE, Int.reduceToNat, Int.reduceAdd, Int.reduceSub, Int.reduceMul, reduceCtorEq, decide_true, decide_false, Nat.zero_add, Nat.add_zero, Nat.zero_mul, Nat.sub_zero, Int.toNat_natCast, true_and, and_true, false_and, and_false, ne_eq, not_false_eq_true, not_true_eq_false, beq_self_eq_true, Bool.false_eq_true, Nat.le_refl, Nat.zero_le]
        refine .intro (fun hjl => ?_) (fun hjl => ?_)
        · have hjl' : j < (g.out at_).length := by omega
          have hmem := List.getElem_mem hjl'
          have x2 : (ints (g.out at_))[j]? = some [.sc (.int .i64 (g.out at_)[j])] := ints_get (List.getElem?_eq_getElem hjl')
          have htake : ((g.out at_).take (j + 1)).foldl (relax1 g down far out') (popped h) = relax1 g down far out' h2 (g.out at_)[j] := by
            rw [List.take_succ_eq_append_getElem hjl', List.foldl_append, ← hh2]; rfl
          generalize (g.out at_)[j] = e at *
          obtain ⟨e1, e2, e3⟩ := g.mem_out hmem
          obtain ⟨v1, v2, v3, v4⟩ := g.ends_of hok e1 e2
          obtain ⟨v5, v6⟩ := g.metric_of hok e1 e2
          have n4 : (0 : Int) ≤ j := by omega
          have w4 : IntKind.i64.wrap ((j : Int) + 1) = ((j + 1 : Nat) : Int) := by rw [wrap_id (by omega) (by omega)]; rfl
          simp only [go_sem, Option.isSome_some, ↓reduceIte, if_true, if_false, Nat.reduceEqDiff, Nat.reduceAdd, Nat.reduceMul, Nat.reduceSub, Nat.reduceLT, Nat.reduceLeDiff, Nat.reduceDiv, Nat.reduceMod, Nat.reduceBEq, Int.reduceNeg, Int.reduceEq, Int.reduceNe, Int.reduceLT, Int.reduceLE, Int.reduceToNat, Int.reduceAdd, Int.reduceSub, Int.reduceMul, reduceCtorEq, decide_true, decide_false, Nat.zero_add, Nat.add_zero, Nat.zero_mul, Nat.sub_zero, Int.toNat_natCast, true_and, and_true, false_and, and_false, ne_eq, not_false_eq_true, not_true_eq_false, beq_self_eq_true, Bool.false_eq_true, Nat.le_refl, Nat.zero_le, n4, x2, rowAt_get g4]
          refine good_imm (ends_ok g e (by omega)) rfl ?_
          simp only [go_sem, Option.isSome_some, ↓reduceIte, if_true, if_false, Nat.reduceEqDiff, Nat.reduceAdd, Nat.reduceMul, Nat.reduceSub, Nat.reduceLT, Nat.reduceLeDiff, Nat.reduceDiv, Nat.reduceMod, Nat.reduceBEq, Int.reduceNeg, Int.reduceEq, Int.reduceNe, Int.reduceLT, Int.reduceLE, Int.reduceToNat, Int.reduceAdd, Int.reduceSub, Int.reduceMul, reduceCtorEq, decide_true, decide_false, Nat.zero_add, Nat.add_zero, Nat.zero_mul, Nat.sub_zero, Int.toNat_natCast, true_and, and_true, false_and, and_false, ne_eq, not_false_eq_true, not_true_eq_false, beq_self_eq_true, Bool.false_eq_true, Nat.le_refl, Nat.zero_le]
          refine good_imm (up_ok down e e1 (by omega)) rfl ?_
          simp only [go_sem, Option.isSome_some, ↓reduceIte, if_true, if_false, Nat.reduceEqDiff, Nat.reduceAdd, Nat.reduceMul, Nat.reduceSub, Nat.reduceLT, Nat.reduceLeDiff, Nat.reduceDiv, Nat.reduceMod, Nat.reduceBEq, Int.reduceNeg, Int.reduceEq, Int.reduceNe, Int.reduceLT, Int.reduceLE, Int.reduceToNat, Int.reduceAdd, Int.reduceSub, Int.reduceMul, reduceCtorEq, decide_true, decide_false, Nat.zero_add, Nat.add_zero, Nat.zero_mul, Nat.sub_zero, Int.toNat_natCast, true_and, and_true, false_and, and_false, ne_eq, not_false_eq_true, not_true_eq_false, beq_self_eq_true, Bool.false_eq_true, Nat.le_refl, Nat.zero_le]
          have keep : ∀ (h3 : List (Int × Int)) (σ5 : Store), h3 = relax1 g down far out' h2 e → HeapAt σ5 hp h3 [oid, gid] → σ5.get oid = some (.row 0 false 1 (ints out')) → σ5.get gid = some (.row 0 false 2 [[.sc (.int .i64 g.n), .lst (g.ls.map Lk.row)]]) → True := fun _ _ _ _ _ _ => trivial
          cases hup : isUp down e with
          | false =>
            simp only [go_sem, Option.isSome_some, ↓reduceIte, if_true, if_false, Nat.reduceEqDiff, Nat.reduceAdd, Nat.reduceMul, Nat.reduceSub, Nat.reduceLT, Nat.reduceLeDiff, Nat.reduceDiv, Nat.reduceMod, Nat.reduceBEq, Int.reduceNeg, Int.reduceEq, Int.reduceNe, Int.reduceLT, Int.reduceLE, Int.reduceToNat, Int.reduceAdd, Int.reduceSub, Int.reduceMul, reduceCtorEq, decide_true, decide_false, Nat.zero_add, Nat.add_zero, Nat.zero_mul, Nat.sub_zero, Int.toNat_natCast, true_and, and_true, false_and, and_false, ne_eq, not_false_eq_true, not_true_eq_false, beq_self_eq_true, Bool.false_eq_true, Nat.le_refl, Nat.zero_le, w4]
            refine back_of _ ?_ ⟨j + 1, h2, by omega, rfl, rfl, ?_, hh4, o4, g4, hb4, by omega⟩
            · omega
            · rw [htake]; unfold relax1; rw [if_neg (fun h => by rw [hup] at h; cases h.1)]
          | true =>
            generalize hto : (g.ends e).2.1 = to at *
            have hti : to.toNat < out'.length := by omega
            have x3 : (ints out')[to.toNat]? = some [.sc (.int .i64 (out'.getD to.toNat 0))] := ints_get (by simp [hti])
            have m3 : to < (g.n.toNat : Int) := by omega
            simp only [go_sem, Option.isSome_some, ↓reduceIte, if_true, if_false, Nat.reduceEqDiff, Nat.reduceAdd, Nat.reduceMul, Nat.reduceSub, Nat.reduceLT, Nat.reduceLeDiff, Nat.reduceDiv, Nat.reduceMod, Nat.reduceBEq, Int.reduceNeg, Int.reduceEq, Int.reduceNe, Int.reduceLT, Int.reduceLE, Int.reduceToNat, Int.reduceAdd, Int.reduceSub, Int.reduceMul, reduceCtorEq, decide_true, decide_false, Nat.zero_add, Nat.add_zero, Nat.zero_mul, Nat.sub_zero, Int.toNat_natCast, true_and, and_true, false_and, and_false, ne_eq, not_false_eq_true, not_true_eq_false, beq_self_eq_true, Bool.false_eq_true, Nat.le_refl, Nat.zero_le, v2.1, m3, rowAt_get o4, x3]
            by_cases hso : out'.getD to.toNat 0 = -1
            · have hq : IntKind.i64.wrap (e.tdiv 2) = e / 2 := by
                rw [Int.tdiv_eq_ediv_of_nonneg (by omega)]
                exact wrap_id (by omega) (by omega)
              have hlt : (e / 2).toNat < g.ls.length := by omega
              have x4 : (g.ls.map Lk.row)[(e / 2).toNat]? = some [.sc (.int .i64 (g.ls[(e / 2).toNat]).a), .sc (.int .i64 (g.ls[(e / 2).toNat]).b), .sc (.int .i64 (g.metric e)), .sc (.int .i64 (g.ls[(e / 2).toNat]).c)] := by
                simp [hlt, Lk.row, Gr.metric]
              have n6 : (0 : Int) ≤ e / 2 := by omega
              have w5 : IntKind.i64.wrap (far + g.metric e) = far + g.metric e := by
                have : ((g.n.toNat - unset out' : Nat) : Int) ≤ 40 := by omega
                exact wrap_id (by omega) (by omega)
              simp only [go_sem, Option.isSome_some, ↓reduceIte, if_true, if_false, Nat.reduceEqDiff, Nat.reduceAdd, Nat.reduceMul, Nat.reduceSub, Nat.reduceLT, Nat.reduceLeDiff, Nat.reduceDiv, Nat.reduceMod, Nat.reduceBEq, Int.reduceNeg, Int.reduceEq, Int.reduceNe, Int.reduceLT, Int.reduceLE, Int.reduceToNat, Int.reduceAdd, Int.reduceSub, Int.reduceMul, reduceCtorEq, decide_true, decide_false, Nat.zero_add, Nat.add_zero, Nat.zero_mul, Nat.sub_zero, Int.toNat_natCast, true_and, and_true, false_and, and_false, ne_eq, not_false_eq_true, not_true_eq_false, beq_self_eq_true, Bool.false_eq_true, Nat.le_refl, Nat.zero_le, hso, rowAt_get g4, hq, x4, n6, w5]
              refine (push_ok σ4 hp h2 [oid, gid] (far + g.metric e) to hh4 (by omega)).mono ?_
              rintro r σ5 ⟨hh5, fr5⟩
              simp only [go_sem, Option.isSome_some, ↓reduceIte, if_true, if_false, Nat.reduceEqDiff, Nat.reduceAdd, Nat.reduceMul, Nat.reduceSub, Nat.reduceLT, Nat.reduceLeDiff, Nat.reduceDiv, Nat.reduceMod, Nat.reduceBEq, Int.reduceNeg, Int.reduceEq, Int.reduceNe, Int.reduceLT, Int.reduceLE, Int.reduceToNat, Int.reduceAdd, Int.reduceSub, Int.reduceMul, reduceCtorEq, decide_true, decide_false, Nat.zero_add, Nat.add_zero, Nat.zero_mul, Nat.sub_zero, Int.toNat_natCast, true_and, and_true, false_and, and_false, ne_eq, not_false_eq_true, not_true_eq_false, beq_self_eq_true, Bool.false_eq_true, Nat.le_refl, Nat.zero_le, w4]
              have hr1 : relax1 g down far out' h2 e = hpush h2 (far + g.metric e) to := by
                unfold relax1; rw [hto, if_pos ⟨hup, hso⟩]
              refine back_of _ ?_ ⟨j + 1, hpush h2 (far + g.metric e) to, by omega, rfl, rfl, ?_, hh5, (fr5 oid (by simp)).trans o4, (fr5 gid (by simp)).trans g4, fun p hp => ?_, by rw [hpush_len]; omega⟩
              · omega
              · rw [htake, hr1]
              · rcases hpush_mem hp with h | h
                · exact hb4 p h
                · subst h; exact ⟨v2, by omega, by omega⟩
            · simp only [go_sem, Option.isSome_some, ↓reduceIte, if_true, if_false, Nat.reduceEqDiff, Nat.reduceAdd, Nat.reduceMul, Nat.reduceSub, Nat.reduceLT, Nat.reduceLeDiff, Nat.reduceDiv, Nat.reduceMod, Nat.reduceBEq, Int.reduceNeg, Int.reduceEq, Int.reduceNe, Int.reduceLT, Int.reduceLE, Int.reduceToNat, Int.reduceAdd, Int.reduceSub, Int.reduceMul, reduceCtorEq, decide_true, decide_false, Nat.zero_add, Nat.add_zero, Nat.zero_mul, Nat.sub_zero, Int.toNat_natCast, true_and, and_true, false_and, and_false, ne_eq, not_false_eq_true, not_true_eq_false, beq_self_eq_true, Bool.false_eq_true, Nat.le_refl, Nat.zero_le, hso, w4]
              refine back_of _ ?_ ⟨j + 1, h2, by omega, rfl, rfl, ?_, hh4, o4, g4, hb4, by omega⟩
              · omega
              · rw [htake]; unfold relax1; rw [hto, if_neg (fun h => hso h.2)]
        · simp only [go_sem, Option.isSome_some, ↓reduceIte, if_true, if_false, Nat.reduceEqDiff, Nat.reduceAdd, Nat.reduceMul, Nat.reduceSub, Nat.reduceLT, Nat.reduceLeDiff, Nat.reduceDiv, Nat.reduceMod, Nat.reduceBEq, Int.reduceNeg, Int.reduceEq, Int.reduceNe, Int.reduceLT, Int.reduceLE, Int.reduceToNat, Int.reduceAdd, Int.reduceSub, Int.reduceMul, reduceCtorEq, decide_true, decide_false, Nat.zero_add, Nat.add_zero, Nat.zero_mul, Nat.sub_zero, Int.toNat_natCast, true_and, and_true, false_and, and_false, ne_eq, not_false_eq_true, not_true_eq_false, beq_self_eq_true, Bool.false_eq_true, Nat.le_refl, Nat.zero_le]
          have e : j = (g.out at_).length := by omega
          subst e
          rw [List.take_length] at hh2
          refine back_le _ ?_ [(1, .lst (bools down)), (3, .ptr gid 0 0 0), (7, .sl oid 0 0 g.n.toNat 1), (9, .ptr hp 0 0 0)] (by simp [Fr.get]) ⟨f', h2, out', rfl, rfl, hlen', hh4, o4, g4, hb4, ?_, ?_, by rw [hh2]; exact hd⟩
          · rw [← hU', Nat.add_mul]; omega
          · have e5 : g.n.toNat - unset out' = g.n.toNat - unset out + 1 := by omega
            rw [e5, Nat.add_mul]; omega
          · rw [← hU', Nat.add_mul] at hf; omega
      · rw [if_neg hset] at hd
        simp only [go_sem, Option.isSome_some, ↓reduceIte, if_true, if_false, Nat.reduceEqDiff, Nat.reduceAdd, Nat.reduceMul, Nat.reduceSub, Nat.reduceLT, Nat.reduceLeDiff, Nat.reduceDiv, Nat.reduceMod, Nat.reduceBEq, Int.reduceNeg, Int.reduceEq, Int.reduceNe, Int.reduceLT, Int.reduceLE, Int.reduceToNat, Int.reduceAdd, Int.reduceSub, Int.reduceMul, reduceCtorEq, decide_true, decide_false, Nat.zero_add, Nat.add_zero, Nat.zero_mul, Nat.sub_zero, Int.toNat_natCast, true_and, and_true, false_and, and_false, ne_eq, not_false_eq_true, not_true_eq_false, beq_self_eq_true, Bool.false_eq_true, Nat.le_refl, Nat.zero_le, hset]
        refine back_le _ ?_ [(1, .lst (bools down)), (3, .ptr gid 0 0 0), (7, .sl oid 0 0 g.n.toNat 1), (9, .ptr hp 0 0 0)] (by simp [Fr.get]) ⟨f', popped h, out, rfl, rfl, hlen, hh3, o3, g3, fun p hp => hb p (popped_mem hp), by omega, by omega, hd⟩
        omega
end Go.Proofs

set_option linter.unusedSimpArgs false
set_option linter.unusedVariables false
namespace Go.Proofs
open Go.Ab

theorem node_ok (n : Int) (ls : AVal) (x : Int) : PGood Try.prog 19 [.agg [.i n, ls], .i x] (.b (decide (0 ≤ x ∧ x < n))) := by
  refine pgood_of_out 1 (good_of_wp isF19 (Nat.le_refl _) ?_)
  unfold ac19
  simp only [go_sem, Option.isSome_some, ↓reduceIte, if_true, if_false, Nat.reduceEqDiff, Nat.reduceAdd, Nat.reduceMul, Nat.reduceSub, Nat.reduceLT, Nat.reduceLeDiff, Nat.reduceDiv, Nat.reduceMod, Nat.reduceBEq, Int.reduceNeg, Int.reduceEq, Int.reduceNe, Int.reduceLT, Int.reduceLE, Int.reduceToNat, Int.reduceAdd, Int.reduceSub, Int.reduceMul, reduceCtorEq, decide_true, decide_false, Nat.zero_add, Nat.add_zero, Nat.zero_mul, Nat.sub_zero, Int.toNat_natCast, true_and, and_true, false_and, and_false, ne_eq, not_false_eq_true, not_true_eq_false, beq_self_eq_true, Bool.false_eq_true, Nat.le_refl, Nat.zero_le]
  intro id hid
  simp only [go_sem, Option.isSome_some, ↓reduceIte, if_true, if_false, Nat.reduceEqDiff, Nat.reduceAdd, Nat.reduceMul, Nat.reduceSub, Nat.reduceLT, Nat.reduceLeDiff, Nat.reduceDiv, Nat.reduceMod, Nat.reduceBEq, Int.reduceNeg, Int.reduceEq, Int.reduceNe, Int.reduceLT, Int.reduceLE, Int.reduceToNat, Int.reduceAdd, Int.reduceSub, Int.reduceMul, reduceCtorEq, decide_true, decide_false, Nat.zero_add, Nat.add_zero, Nat.zero_mul, Nat.sub_zero, Int.toNat_natCast, true_and, and_true, false_and, and_false, ne_eq, not_false_eq_true, not_true_eq_false, beq_self_eq_true, Bool.false_eq_true, Nat.le_refl, Nat.zero_le]
  refine .intro (fun h => ?_) (fun h => ?_)
  · simp only [go_sem, Option.isSome_some, ↓reduceIte, if_true, if_false, Nat.reduceEqDiff, Nat.reduceAdd, Nat.reduceMul, Nat.reduceSub, Nat.reduceLT, Nat.reduceLeDiff, Nat.reduceDiv, Nat.reduceMod, Nat.reduceBEq, Int.reduceNeg, Int.reduceEq, Int.reduceNe, Int.reduceLT, Int.reduceLE, Int.reduceToNat, Int.reduceAdd, Int.reduceSub, Int.reduceMul, reduceCtorEq, decide_true, decide_false, Nat.zero_add, Nat.add_zero, Nat.zero_mul, Nat.sub_zero, Int.toNat_natCast, true_and, and_true, false_and, and_false, ne_eq, not_false_eq_true, not_true_eq_false, beq_self_eq_true, Bool.false_eq_true, Nat.le_refl, Nat.zero_le, h]
    exact out_sc
  · simp only [go_sem, Option.isSome_some, ↓reduceIte, if_true, if_false, Nat.reduceEqDiff, Nat.reduceAdd, Nat.reduceMul, Nat.reduceSub, Nat.reduceLT, Nat.reduceLeDiff, Nat.reduceDiv, Nat.reduceMod, Nat.reduceBEq, Int.reduceNeg, Int.reduceEq, Int.reduceNe, Int.reduceLT, Int.reduceLE, Int.reduceToNat, Int.reduceAdd, Int.reduceSub, Int.reduceMul, reduceCtorEq, decide_true, decide_false, Nat.zero_add, Nat.add_zero, Nat.zero_mul, Nat.sub_zero, Int.toNat_natCast, true_and, and_true, false_and, and_false, ne_eq, not_false_eq_true, not_true_eq_false, beq_self_eq_true, Bool.false_eq_true, Nat.le_refl, Nat.zero_le, h]
    exact out_sc

theorem rends_ok (g : Gr) (e : Int) (he : e < 9223372036854775808) : PGood Try.prog 17 [g.val, .i e] (.tup [.i (g.ends e).1, .i (g.ends e).2.1, .b (g.ends e).2.2]) := by
  refine pgood_of_out 2 (good_of_wp isF17 (Nat.le_refl _) ?_)
  unfold ac17
  simp only [go_sem, Option.isSome_some, ↓reduceIte, if_true, if_false, Nat.reduceEqDiff, Nat.reduceAdd, Nat.reduceMul, Nat.reduceSub, Nat.reduceLT, Nat.reduceLeDiff, Nat.reduceDiv, Nat.reduceMod, Nat.reduceBEq, Int.reduceNeg, Int.reduceEq, Int.reduceNe, Int.reduceLT, Int.reduceLE, Int.reduceToNat, Int.reduceAdd, Int.reduceSub, Int.reduceMul, reduceCtorEq, decide_true, decide_false, Nat.zero_add, Nat.add_zero, Nat.zero_mul, Nat.sub_zero, Int.toNat_natCast, true_and, and_true, false_and, and_false, ne_eq, not_false_eq_true, not_true_eq_false, beq_self_eq_true, Bool.false_eq_true, Nat.le_refl, Nat.zero_le, Gr.val]
  intro id hid
  simp only [go_sem, Option.isSome_some, ↓reduceIte, if_true, if_false, Nat.reduceEqDiff, Nat.reduceAdd, Nat.reduceMul, Nat.reduceSub, Nat.reduceLT, Nat.reduceLeDiff, Nat.reduceDiv, Nat.reduceMod, Nat.reduceBEq, Int.reduceNeg, Int.reduceEq, Int.reduceNe, Int.reduceLT, Int.reduceLE, Int.reduceToNat, Int.reduceAdd, Int.reduceSub, Int.reduceMul, reduceCtorEq, decide_true, decide_false, Nat.zero_add, Nat.add_zero, Nat.zero_mul, Nat.sub_zero, Int.toNat_natCast, true_and, and_true, false_and, and_false, ne_eq, not_false_eq_true, not_true_eq_false, beq_self_eq_true, Bool.false_eq_true, Nat.le_refl, Nat.zero_le]
  refine .intro (fun h => ?_) (fun h => ?_)
  · simp only [go_sem, Option.isSome_some, ↓reduceIte, if_true, if_false, Nat.reduceEqDiff, Nat.reduceAdd, Nat.reduceMul, Nat.reduceSub, Nat.reduceLT, Nat.reduceLeDiff, Nat.reduceDiv, Nat.reduceMod, Nat.reduceBEq, Int.reduceNeg, Int.reduceEq, Int.reduceNe, Int.reduceLT, Int.reduceLE, Int.reduceToNat, Int.reduceAdd, Int.reduceSub, Int.reduceMul, reduceCtorEq, decide_true, decide_false, Nat.zero_add, Nat.add_zero, Nat.zero_mul, Nat.sub_zero, Int.toNat_natCast, true_and, and_true, false_and, and_false, ne_eq, not_false_eq_true, not_true_eq_false, beq_self_eq_true, Bool.false_eq_true, Nat.le_refl, Nat.zero_le, h]
    have e1 : g.ends e = (0, 0, false) := by unfold Gr.ends; rw [if_pos (.inl h)]
    rw [e1]
    exact out_tup3 out_sc out_sc out_sc
  · have hq : IntKind.i64.wrap (e.tdiv 2) = e / 2 := by
      rw [Int.tdiv_eq_ediv_of_nonneg (by omega)]
      exact wrap_id (by omega) (by omega)
    have hr : e.tmod 2 = e % 2 := Int.tmod_eq_emod_of_nonneg (by omega)
    simp only [go_sem, Option.isSome_some, ↓reduceIte, if_true, if_false, Nat.reduceEqDiff, Nat.reduceAdd, Nat.reduceMul, Nat.reduceSub, Nat.reduceLT, Nat.reduceLeDiff, Nat.reduceDiv, Nat.reduceMod, Nat.reduceBEq, Int.reduceNeg, Int.reduceEq, Int.reduceNe, Int.reduceLT, Int.reduceLE, Int.reduceToNat, Int.reduceAdd, Int.reduceSub, Int.reduceMul, reduceCtorEq, decide_true, decide_false, Nat.zero_add, Nat.add_zero, Nat.zero_mul, Nat.sub_zero, Int.toNat_natCast, true_and, and_true, false_and, and_false, ne_eq, not_false_eq_true, not_true_eq_false, beq_self_eq_true, Bool.false_eq_true, Nat.le_refl, Nat.zero_le, h, hq, hr]
    refine .intro (fun h2 => ?_) (fun h2 => ?_)
    · simp only [go_sem, Option.isSome_some, ↓reduceIte, if_true, if_false, Nat.reduceEqDiff, Nat.reduceAdd, Nat.reduceMul, Nat.reduceSub, Nat.reduceLT, Nat.reduceLeDiff, Nat.reduceDiv, Nat.reduceMod, Nat.reduceBEq, Int.reduceNeg, Int.reduceEq, Int.reduceNe, Int.reduceLT, Int.reduceLE, Int.reduceToNat, Int.reduceAdd, Int.reduceSub, Int.reduceMul, reduceCtorEq, decide_true, decide_false, Nat.zero_add, Nat.add_zero, Nat.zero_mul, Nat.sub_zero, Int.toNat_natCast, true_and, and_true, false_and, and_false, ne_eq, not_false_eq_true, not_true_eq_false, beq_self_eq_true, Bool.false_eq_true, Nat.le_refl, Nat.zero_le, h, h2]
      have e1 : g.ends e = (0, 0, false) := by unfold Gr.ends; rw [if_pos (.inr h2)]
      rw [e1]
      exact out_tup3 out_sc out_sc out_sc
    · have hlt : (e / 2).toNat < g.ls.length := by omega
      have hx : (g.ls.map Lk.row)[(e / 2).toNat]? = some (g.ls[(e / 2).toNat]).row := by simp [hlt]
      have hn : (0 : Int) ≤ e / 2 := by omega
      have e1 : g.ends e = if e % 2 = 1 then ((g.ls[(e / 2).toNat]).b, (g.ls[(e / 2).toNat]).a, true) else ((g.ls[(e / 2).toNat]).a, (g.ls[(e / 2).toNat]).b, true) := by
        unfold Gr.ends; rw [if_neg (by omega), List.getElem?_eq_getElem hlt]
      generalize g.ls[(e / 2).toNat] = l at *
      simp only [go_sem, Option.isSome_some, ↓reduceIte, if_true, if_false, Nat.reduceEqDiff, Nat.reduceAdd, Nat.reduceMul, Nat.reduceSub, Nat.reduceLT, Nat.reduceLeDiff, Nat.reduceDiv, Nat.reduceMod, Nat.reduceBEq, Int.reduceNeg, Int.reduceEq, Int.reduceNe, Int.reduceLT, Int.reduceLE, Int.reduceToNat, Int.reduceAdd, Int.reduceSub, Int.reduceMul, reduceCtorEq, decide_true, decide_false, Nat.zero_add, Nat.add_zero, Nat.zero_mul, Nat.sub_zero, Int.toNat_natCast, true_and, and_true, false_and, and_false, ne_eq, not_false_eq_true, not_true_eq_false, beq_self_eq_true, Bool.false_eq_true, Nat.le_refl, Nat.zero_le, h, h2, hq, hr, hx, hn, Lk.row]
      intro id2 hid2
      simp only [go_sem, Option.isSome_some, ↓reduceIte, if_true, if_false, Nat.reduceEqDiff, Nat.reduceAdd, Nat.reduceMul, Nat.reduceSub, Nat.reduceLT, Nat.reduceLeDiff, Nat.reduceDiv, Nat.reduceMod, Nat.reduceBEq, Int.reduceNeg, Int.reduceEq, Int.reduceNe, Int.reduceLT, Int.reduceLE, Int.reduceToNat, Int.reduceAdd, Int.reduceSub, Int.reduceMul, reduceCtorEq, decide_true, decide_false, Nat.zero_add, Nat.add_zero, Nat.zero_mul, Nat.sub_zero, Int.toNat_natCast, true_and, and_true, false_and, and_false, ne_eq, not_false_eq_true, not_true_eq_false, beq_self_eq_true, Bool.false_eq_true, Nat.le_refl, Nat.zero_le, hr]
      refine .intro (fun h3 => ?_) (fun h3 => ?_)
      · simp only [go_sem, Option.isSome_some, ↓reduceIte, if_true, if_false, Nat.reduceEqDiff, Nat.reduceAdd, Nat.reduceMul, Nat.reduceSub, Nat.reduceLT, Nat.reduceLeDiff, Nat.reduceDiv, Nat.reduceMod, Nat.reduceBEq, Int.reduceNeg, Int.reduceEq, Int.reduceNe, Int.reduceLT, Int.reduceLE, Int.reduceToNat, Int.reduceAdd, Int.reduceSub, Int.reduceMul, reduceCtorEq, decide_true, decide_false, Nat.zero_add, Nat.add_zero, Nat.zero_mul, Nat.sub_zero, Int.toNat_natCast, true_and, and_true, false_and, and_false, ne_eq, not_false_eq_true, not_true_eq_false, beq_self_eq_true, Bool.false_eq_true, Nat.le_refl, Nat.zero_le, h3, op17_27]
        rw [e1, if_pos h3]
        exact out_tup3 out_sc out_sc out_sc
      · simp only [go_sem, Option.isSome_some, ↓reduceIte, if_true, if_false, Nat.reduceEqDiff, Nat.reduceAdd, Nat.reduceMul, Nat.reduceSub, Nat.reduceLT, Nat.reduceLeDiff, Nat.reduceDiv, Nat.reduceMod, Nat.reduceBEq, Int.reduceNeg, Int.reduceEq, Int.reduceNe, Int.reduceLT, Int.reduceLE, Int.reduceToNat, Int.reduceAdd, Int.reduceSub, Int.reduceMul, reduceCtorEq, decide_true, decide_false, Nat.zero_add, Nat.add_zero, Nat.zero_mul, Nat.sub_zero, Int.toNat_natCast, true_and, and_true, false_and, and_false, ne_eq, not_false_eq_true, not_true_eq_false, beq_self_eq_true, Bool.false_eq_true, Nat.le_refl, Nat.zero_le, h3, op17_31]
        rw [e1, if_neg h3]
        exact out_tup3 out_sc out_sc out_sc

theorem rout_ok (g : Gr) (x : Int) (hg : g.ls.length ≤ 1000000) : PGood Try.prog 33 [g.val, .i x] (.lst (ints (g.out x))) := by
  refine pgood_of_out 2 (good_of_wp isF33 (Nat.le_refl _) ?_)
  unfold ac33
  simp only [go_sem, Option.isSome_some, ↓reduceIte, if_true, if_false, Nat.reduceEqDiff, Nat.reduceAdd, Nat.reduceMul, Nat.reduceSub, Nat.reduceLT, Nat.reduceLeDiff, Nat.reduceDiv, Nat.reduceMod, Nat.reduceBEq, Int.reduceNeg, Int.reduceEq, Int.reduceNe, Int.reduceLT, Int.reduceLE, Int.reduceToNat, Int.reduceAdd, Int.reduceSub, Int.reduceMul, reduceCtorEq, decide_true, decide_false, Nat.zero_add, Nat.add_zero, Nat.zero_mul, Nat.sub_zero, Int.toNat_natCast, true_and, and_true, false_and, and_false, ne_eq, not_false_eq_true, not_true_eq_false, beq_self_eq_true, Bool.false_eq_true, Nat.le_refl, Nat.zero_le, Gr.val]
  intro id hid
  have hw : IntKind.i64.wrap (2 * (g.ls.length : Int)) = 2 * (g.ls.length : Int) := wrap_id (by omega) (by omega)
  simp only [go_sem, Option.isSome_some, ↓reduceIte, if_true, if_false, Nat.reduceEqDiff, Nat.reduceAdd, Nat.reduceMul, Nat.reduceSub, Nat.reduceLT, Nat.reduceLeDiff, Nat.reduceDiv, Nat.reduceMod, Nat.reduceBEq, Int.reduceNeg, Int.reduceEq, Int.reduceNe, Int.reduceLT, Int.reduceLE, Int.reduceToNat, Int.reduceAdd, Int.reduceSub, Int.reduceMul, reduceCtorEq, decide_true, decide_false, Nat.zero_add, Nat.add_zero, Nat.zero_mul, Nat.sub_zero, Int.toNat_natCast, true_and, and_true, false_and, and_false, ne_eq, not_false_eq_true, not_true_eq_false, beq_self_eq_true, Bool.false_eq_true, Nat.le_refl, Nat.zero_le]
  refine loop_rule (fun m fr σ => ∃ (i : Nat) (v : AVal), i ≤ 2 * g.ls.length ∧ m = 2 * g.ls.length - i ∧ fr = [(1, .i x), (2, .ptr id 0 0 0), (5, v), (6, .i i)] ∧
    σ.get id = some (.row 0 false 2 [[.sc (.int .i64 g.n), .lst (g.ls.map Lk.row)]]) ∧ Acc σ 1 v (ints (g.outN x i)) [id]) (2 * g.ls.length) ⟨0, .nils, by omega, rfl, rfl, by simp, acc_nils (alive_cons (Store.get_set_self _ _ _) alive_nil)⟩ ?_
  rintro m fr σ ⟨i, v, h1, rfl, rfl, h2, h3⟩
  simp only [go_sem, Option.isSome_some, ↓reduceIte, if_true, if_false, Nat.reduceEqDiff, Nat.reduceAdd, Nat.reduceMul, Nat.reduceSub, Nat.reduceLT, Nat.reduceLeDiff, Nat.reduceDiv, Nat.reduceMod, Nat.reduceBEq, Int.reduceNeg, Int.reduceEq, Int.reduceNe, Int.reduceLT, Int.reduceLE, Int.reduceToNat, Int.reduceAdd, Int.reduceSub, Int.reduceMul, reduceCtorEq, decide_true, decide_false, Nat.zero_add, Nat.add_zero, Nat.zero_mul, Nat.sub_zero, Int.toNat_natCast, true_and, and_true, false_and, and_false, ne_eq, not_false_eq_true, not_true_eq_false, beq_self_eq_true, Bool.false_eq_true, Nat.le_refl, Nat.zero_le, rowAt_get h2, hw]
  refine .intro (fun h => ?_) (fun h => ?_)
  · simp only [go_sem, Option.isSome_some, ↓reduceIte, if_true, if_false, Nat.reduceEqDiff, Nat.reduceAdd, Nat.reduceMul, Nat.reduceSub, Nat.reduceLT, Nat.reduceLeDiff, Nat.reduceDiv, Nat.reduceMod, Nat.reduceBEq, Int.reduceNeg, Int.reduceEq, Int.reduceNe, Int.reduceLT, Int.reduceLE, Int.reduceToNat, Int.reduceAdd, Int.reduceSub, Int.reduceMul, reduceCtorEq, decide_true, decide_false, Nat.zero_add, Nat.add_zero, Nat.zero_mul, Nat.sub_zero, Int.toNat_natCast, true_and, and_true, false_and, and_false, ne_eq, not_false_eq_true, not_true_eq_false, beq_self_eq_true, Bool.false_eq_true, Nat.le_refl, Nat.zero_le, rowAt_of h2]
    refine good_imm (rends_ok g i (by omega)) rfl ?_
    simp only [go_sem, Option.isSome_some, ↓reduceIte, if_true, if_false, Nat.reduceEqDiff, Nat.reduceAdd, Nat.reduceMul, Nat.reduceSub, Nat.reduceLT, Nat.reduceLeDiff, Nat.reduceDiv, Nat.reduceMod, Nat.reduceBEq, Int.reduceNeg, Int.reduceEq, Int.reduceNe, Int.reduceLT, Int.reduceLE, Int.reduceToNat, Int.reduceAdd, Int.reduceSub, Int.reduceMul, reduceCtorEq, decide_true, decide_false, Nat.zero_add, Nat.add_zero, Nat.zero_mul, Nat.sub_zero, Int.toNat_natCast, true_and, and_true, false_and, and_false, ne_eq, not_false_eq_true, not_true_eq_false, beq_self_eq_true, Bool.false_eq_true, Nat.le_refl, Nat.zero_le]
    have hw2 : IntKind.i64.wrap ((i : Int) + 1) = ((i + 1 : Nat) : Int) := by rw [wrap_id (by omega) (by omega)]; rfl
    refine .intro (fun h4 => ?_) (fun h4 => ?_)
    · simp only [go_sem, Option.isSome_some, ↓reduceIte, if_true, if_false, Nat.reduceEqDiff, Nat.reduceAdd, Nat.reduceMul, Nat.reduceSub, Nat.reduceLT, Nat.reduceLeDiff, Nat.reduceDiv, Nat.reduceMod, Nat.reduceBEq, Int.reduceNeg, Int.reduceEq, Int.reduceNe, Int.reduceLT, Int.reduceLE, Int.reduceToNat, Int.reduceAdd, Int.reduceSub, Int.reduceMul, reduceCtorEq, decide_true, decide_false, Nat.zero_add, Nat.add_zero, Nat.zero_mul, Nat.sub_zero, Int.toNat_natCast, true_and, and_true, false_and, and_false, ne_eq, not_false_eq_true, not_true_eq_false, beq_self_eq_true, Bool.false_eq_true, Nat.le_refl, Nat.zero_le]
      intro id2 hid2
      simp only [go_sem, Option.isSome_some, ↓reduceIte, if_true, if_false, Nat.reduceEqDiff, Nat.reduceAdd, Nat.reduceMul, Nat.reduceSub, Nat.reduceLT, Nat.reduceLeDiff, Nat.reduceDiv, Nat.reduceMod, Nat.reduceBEq, Int.reduceNeg, Int.reduceEq, Int.reduceNe, Int.reduceLT, Int.reduceLE, Int.reduceToNat, Int.reduceAdd, Int.reduceSub, Int.reduceMul, reduceCtorEq, decide_true, decide_false, Nat.zero_add, Nat.add_zero, Nat.zero_mul, Nat.sub_zero, Int.toNat_natCast, true_and, and_true, false_and, and_false, ne_eq, not_false_eq_true, not_true_eq_false, beq_self_eq_true, Bool.false_eq_true, Nat.le_refl, Nat.zero_le]
      have hlen := g.outN_len x i
      refine acc_append (h3.fresh hid2 _) (by simp only [ints_len, List.length_cons, List.length_nil]; omega) (by simp only [ints_len, List.length_cons, List.length_nil]; omega) fun v' σ' k1 k2 => ?_
      simp only [go_sem, Option.isSome_some, ↓reduceIte, if_true, if_false, Nat.reduceEqDiff, Nat.reduceAdd, Nat.reduceMul, Nat.reduceSub, Nat.reduceLT, Nat.reduceLeDiff, Nat.reduceDiv, Nat.reduceMod, Nat.reduceBEq, Int.reduceNeg, Int.reduceEq, Int.reduceNe, Int.reduceLT, Int.reduceLE, Int.reduceToNat, Int.reduceAdd, Int.reduceSub, Int.reduceMul, reduceCtorEq, decide_true, decide_false, Nat.zero_add, Nat.add_zero, Nat.zero_mul, Nat.sub_zero, Int.toNat_natCast, true_and, and_true, false_and, and_false, ne_eq, not_false_eq_true, not_true_eq_false, beq_self_eq_true, Bool.false_eq_true, Nat.le_refl, Nat.zero_le, hw2]
      refine back_of _ ?_ ⟨i + 1, v', by omega, rfl, rfl, ?_, ?_⟩
      · omega
      · rw [k2 id (by simp), get_fresh hid2 (by rw [h2]; rfl), h2]
      · rw [Gr.outN_succ, if_pos h4, ints_app]
        exact k1.less (by simp)
    · simp only [go_sem, Option.isSome_some, ↓reduceIte, if_true, if_false, Nat.reduceEqDiff, Nat.reduceAdd, Nat.reduceMul, Nat.reduceSub, Nat.reduceLT, Nat.reduceLeDiff, Nat.reduceDiv, Nat.reduceMod, Nat.reduceBEq, Int.reduceNeg, Int.reduceEq, Int.reduceNe, Int.reduceLT, Int.reduceLE, Int.reduceToNat, Int.reduceAdd, Int.reduceSub, Int.reduceMul, reduceCtorEq, decide_true, decide_false, Nat.zero_add, Nat.add_zero, Nat.zero_mul, Nat.sub_zero, Int.toNat_natCast, true_and, and_true, false_and, and_false, ne_eq, not_false_eq_true, not_true_eq_false, beq_self_eq_true, Bool.false_eq_true, Nat.le_refl, Nat.zero_le, hw2]
      refine back_of _ ?_ ⟨i + 1, v, by omega, rfl, rfl, h2, ?_⟩
      · omega
      · rw [Gr.outN_succ, if_neg h4]; exact h3
  · simp only [go_sem, Option.isSome_some, ↓reduceIte, if_true, if_false, Nat.reduceEqDiff, Nat.reduceAdd, Nat.reduceMul, Nat.reduceSub, Nat.reduceLT, Nat.reduceLeDiff, Nat.reduceDiv, Nat.reduceMod, Nat.reduceBEq, Int.reduceNeg, Int.reduceEq, Int.reduceNe, Int.reduceLT, Int.reduceLE, Int.reduceToNat, Int.reduceAdd, Int.reduceSub, Int.reduceMul, reduceCtorEq, decide_true, decide_false, Nat.zero_add, Nat.add_zero, Nat.zero_mul, Nat.sub_zero, Int.toNat_natCast, true_and, and_true, false_and, and_false, ne_eq, not_false_eq_true, not_true_eq_false, beq_self_eq_true, Bool.false_eq_true, Nat.le_refl, Nat.zero_le]
    have e : i = 2 * g.ls.length := by omega
    subst e
    exact acc_out h3 (ints_sc _)

theorem cut_ok (a b c : Int) : PGood Try.prog 14 [.i a, .i b, .i c] (.i (if a < b then b else if c < a then c else a)) := by
  refine pgood_of_out 1 (good_of_wp isF14 (Nat.le_refl _) ?_)
  unfold ac14
  simp only [go_sem, Option.isSome_some, ↓reduceIte, if_true, if_false, Nat.reduceEqDiff, Nat.reduceAdd, Nat.reduceMul, Nat.reduceSub, Nat.reduceLT, Nat.reduceLeDiff, Nat.reduceDiv, Nat.reduceMod, Nat.reduceBEq, Int.reduceNeg, Int.reduceEq, Int.reduceNe, Int.reduceLT, Int.reduceLE, Int.reduceToNat, Int.reduceAdd, Int.reduceSub, Int.reduceMul, reduceCtorEq, decide_true, decide_false, Nat.zero_add, Nat.add_zero, Nat.zero_mul, Nat.sub_zero, Int.toNat_natCast, true_and, and_true, false_and, and_false, ne_eq, not_false_eq_true, not_true_eq_false, beq_self_eq_true, Bool.false_eq_true, Nat.le_refl, Nat.zero_le]
  by_cases h1 : a < b
  · simp only [go_sem, Option.isSome_some, ↓reduceIte, if_true, if_false, Nat.reduceEqDiff, Nat.reduceAdd, Nat.reduceMul, Nat.reduceSub, Nat.reduceLT, Nat.reduceLeDiff, Nat.reduceDiv, Nat.reduceMod, Nat.reduceBEq, Int.reduceNeg, Int.reduceEq, Int.reduceNe, Int.reduceLT, Int.reduceLE, Int.reduceToNat, Int.reduceAdd, Int.reduceSub, Int.reduceMul, reduceCtorEq, decide_true, decide_false, Nat.zero_add, Nat.add_zero, Nat.zero_mul, Nat.sub_zero, Int.toNat_natCast, true_and, and_true, false_and, and_false, ne_eq, not_false_eq_true, not_true_eq_false, beq_self_eq_true, Bool.false_eq_true, Nat.le_refl, Nat.zero_le, h1]
    exact out_sc
  · simp only [go_sem, Option.isSome_some, ↓reduceIte, if_true, if_false, Nat.reduceEqDiff, Nat.reduceAdd, Nat.reduceMul, Nat.reduceSub, Nat.reduceLT, Nat.reduceLeDiff, Nat.reduceDiv, Nat.reduceMod, Nat.reduceBEq, Int.reduceNeg, Int.reduceEq, Int.reduceNe, Int.reduceLT, Int.reduceLE, Int.reduceToNat, Int.reduceAdd, Int.reduceSub, Int.reduceMul, reduceCtorEq, decide_true, decide_false, Nat.zero_add, Nat.add_zero, Nat.zero_mul, Nat.sub_zero, Int.toNat_natCast, true_and, and_true, false_and, and_false, ne_eq, not_false_eq_true, not_true_eq_false, beq_self_eq_true, Bool.false_eq_true, Nat.le_refl, Nat.zero_le, h1]
    by_cases h2 : c < a
    · simp only [go_sem, Option.isSome_some, ↓reduceIte, if_true, if_false, Nat.reduceEqDiff, Nat.reduceAdd, Nat.reduceMul, Nat.reduceSub, Nat.reduceLT, Nat.reduceLeDiff, Nat.reduceDiv, Nat.reduceMod, Nat.reduceBEq, Int.reduceNeg, Int.reduceEq, Int.reduceNe, Int.reduceLT, Int.reduceLE, Int.reduceToNat, Int.reduceAdd, Int.reduceSub, Int.reduceMul, reduceCtorEq, decide_true, decide_false, Nat.zero_add, Nat.add_zero, Nat.zero_mul, Nat.sub_zero, Int.toNat_natCast, true_and, and_true, false_and, and_false, ne_eq, not_false_eq_true, not_true_eq_false, beq_self_eq_true, Bool.false_eq_true, Nat.le_refl, Nat.zero_le, h2]
      exact out_sc
    · simp only [go_sem, Option.isSome_some, ↓reduceIte, if_true, if_false, Nat.reduceEqDiff, Nat.reduceAdd, Nat.reduceMul, Nat.reduceSub, Nat.reduceLT, Nat.reduceLeDiff, Nat.reduceDiv, Nat.reduceMod, Nat.reduceBEq, Int.reduceNeg, Int.reduceEq, Int.reduceNe, Int.reduceLT, Int.reduceLE, Int.reduceToNat, Int.reduceAdd, Int.reduceSub, Int.reduceMul, reduceCtorEq, decide_true, decide_false, Nat.zero_add, Nat.add_zero, Nat.zero_mul, Nat.sub_zero, Int.toNat_natCast, true_and, and_true, false_and, and_false, ne_eq, not_false_eq_true, not_true_eq_false, beq_self_eq_true, Bool.false_eq_true, Nat.le_refl, Nat.zero_le, h2]
      exact out_sc

def isDown (down : List Bool) (i : Int) : Bool := decide (0 ≤ i) && (decide (i < down.length) && down.getD i.toNat false)
theorem isdown_ok (down : List Bool) (i : Int) : PGood Try.prog 18 [.lst (bools down), .i i] (.b (isDown down i)) := by
  refine pgood_of_out 1 (good_of_wp isF18 (Nat.le_refl _) ?_)
  unfold ac18
  simp only [go_sem, Option.isSome_some, ↓reduceIte, if_true, if_false, Nat.reduceEqDiff, Nat.reduceAdd, Nat.reduceMul, Nat.reduceSub, Nat.reduceLT, Nat.reduceLeDiff, Nat.reduceDiv, Nat.reduceMod, Nat.reduceBEq, Int.reduceNeg, Int.reduceEq, Int.reduceNe, Int.reduceLT, Int.reduceLE, Int.reduceToNat, Int.reduceAdd, Int.reduceSub, Int.reduceMul, reduceCtorEq, decide_true, decide_false, Nat.zero_add, Nat.add_zero, Nat.zero_mul, Nat.sub_zero, Int.toNat_natCast, true_and, and_true, false_and, and_false, ne_eq, not_false_eq_true, not_true_eq_false, beq_self_eq_true, Bool.false_eq_true, Nat.le_refl, Nat.zero_le]
  by_cases h1 : 0 ≤ i
  · simp only [go_sem, Option.isSome_some, ↓reduceIte, if_true, if_false, Nat.reduceEqDiff, Nat.reduceAdd, Nat.reduceMul, Nat.reduceSub, Nat.reduceLT, Nat.reduceLeDiff, Nat.reduceDiv, Nat.reduceMod, Nat.reduceBEq, Int.reduceNeg, Int.reduceEq, Int.reduceNe, Int.reduceLT, Int.reduceLE, Int.reduceToNat, Int.reduceAdd, Int.reduceSub, Int.reduceMul, reduceCtorEq, decide_true, decide_false, Nat.zero_add, Nat.add_zero, Nat.zero_mul, Nat.sub_zero, Int.toNat_natCast, true_and, and_true, false_and, and_false, ne_eq, not_false_eq_true, not_true_eq_false, beq_self_eq_true, Bool.false_eq_true, Nat.le_refl, Nat.zero_le, h1]
    by_cases h2 : i < down.length
    · have hlt : i.toNat < down.length := by omega
      have hx : (bools down)[i.toNat]? = some [.sc (.bool (down.getD i.toNat false))] := bools_get (by simp [hlt])
      simp only [go_sem, Option.isSome_some, ↓reduceIte, if_true, if_false, Nat.reduceEqDiff, Nat.reduceAdd, Nat.reduceMul, Nat.reduceSub, Nat.reduceLT, Nat.reduceLeDiff, Nat.reduceDiv, Nat.reduceMod, Nat.reduceBEq, Int.reduceNeg, Int.reduceEq, Int.reduceNe, Int.reduceLT, Int.reduceLE, Int.reduceToNat, Int.reduceAdd, Int.reduceSub, Int.reduceMul, reduceCtorEq, decide_true, decide_false, Nat.zero_add, Nat.add_zero, Nat.zero_mul, Nat.sub_zero, Int.toNat_natCast, true_and, and_true, false_and, and_false, ne_eq, not_false_eq_true, not_true_eq_false, beq_self_eq_true, Bool.false_eq_true, Nat.le_refl, Nat.zero_le, h1, h2, hx]
      refine sub_out out_sc ?_
      simp [isDown, h1, h2]
    · simp only [go_sem, Option.isSome_some, ↓reduceIte, if_true, if_false, Nat.reduceEqDiff, Nat.reduceAdd, Nat.reduceMul, Nat.reduceSub, Nat.reduceLT, Nat.reduceLeDiff, Nat.reduceDiv, Nat.reduceMod, Nat.reduceBEq, Int.reduceNeg, Int.reduceEq, Int.reduceNe, Int.reduceLT, Int.reduceLE, Int.reduceToNat, Int.reduceAdd, Int.reduceSub, Int.reduceMul, reduceCtorEq, decide_true, decide_false, Nat.zero_add, Nat.add_zero, Nat.zero_mul, Nat.sub_zero, Int.toNat_natCast, true_and, and_true, false_and, and_false, ne_eq, not_false_eq_true, not_true_eq_false, beq_self_eq_true, Bool.false_eq_true, Nat.le_refl, Nat.zero_le, h2]
      refine sub_out out_sc ?_
      simp [isDown, h1, h2]
  · simp only [go_sem, Option.isSome_some, ↓reduceIte, if_true, if_false, Nat.reduceEqDiff, Nat.reduceAdd, Nat.reduceMul, Nat.reduceSub, Nat.reduceLT, Nat.reduceLeDiff, Nat.reduceDiv, Nat.reduceMod, Nat.reduceBEq, Int.reduceNeg, Int.reduceEq, Int.reduceNe, Int.reduceLT, Int.reduceLE, Int.reduceToNat, Int.reduceAdd, Int.reduceSub, Int.reduceMul, reduceCtorEq, decide_true, decide_false, Nat.zero_add, Nat.add_zero, Nat.zero_mul, Nat.sub_zero, Int.toNat_natCast, true_and, and_true, false_and, and_false, ne_eq, not_false_eq_true, not_true_eq_false, beq_self_eq_true, Bool.false_eq_true, Nat.le_refl, Nat.zero_le, h1]
    refine sub_out out_sc ?_
    simp [isDown, h1]

theorem spf_to_ok (g : Gr) (down : List Bool) (node : Int) : PGood Try.prog 25 [g.val, .lst (bools down), .i node] (.lst (ints (spfFrom g down node))) := by
  refine pgood_of_out 2 (good_of_wp isF25 (Nat.le_refl _) ?_)
  unfold ac25
  simp only [go_sem, Option.isSome_some, ↓reduceIte, if_true, if_false, Nat.reduceEqDiff, Nat.reduceAdd, Nat.reduceMul, Nat.reduceSub, Nat.reduceLT, Nat.reduceLeDiff, Nat.reduceDiv, Nat.reduceMod, Nat.reduceBEq, Int.reduceNeg, Int.reduceEq, Int.reduceNe, Int.reduceLT, Int.reduceLE, Int.reduceToNat, Int.reduceAdd, Int.reduceSub, Int.reduceMul, reduceCtorEq, decide_true, decide_false, Nat.zero_add, Nat.add_zero, Nat.zero_mul, Nat.sub_zero, Int.toNat_natCast, true_and, and_true, false_and, and_false, ne_eq, not_false_eq_true, not_true_eq_false, beq_self_eq_true, Bool.false_eq_true, Nat.le_refl, Nat.zero_le, Gr.val]
  intro id hid
  simp only [go_sem, Option.isSome_some, ↓reduceIte, if_true, if_false, Nat.reduceEqDiff, Nat.reduceAdd, Nat.reduceMul, Nat.reduceSub, Nat.reduceLT, Nat.reduceLeDiff, Nat.reduceDiv, Nat.reduceMod, Nat.reduceBEq, Int.reduceNeg, Int.reduceEq, Int.reduceNe, Int.reduceLT, Int.reduceLE, Int.reduceToNat, Int.reduceAdd, Int.reduceSub, Int.reduceMul, reduceCtorEq, decide_true, decide_false, Nat.zero_add, Nat.add_zero, Nat.zero_mul, Nat.sub_zero, Int.toNat_natCast, true_and, and_true, false_and, and_false, ne_eq, not_false_eq_true, not_true_eq_false, beq_self_eq_true, Bool.false_eq_true, Nat.le_refl, Nat.zero_le]
  refine good_imm (spf_from_ok g down node) rfl ?_
  simp only [go_sem, Option.isSome_some, ↓reduceIte, if_true, if_false, Nat.reduceEqDiff, Nat.reduceAdd, Nat.reduceMul, Nat.reduceSub, Nat.reduceLT, Nat.reduceLeDiff, Nat.reduceDiv, Nat.reduceMod, Nat.reduceBEq, Int.reduceNeg, Int.reduceEq, Int.reduceNe, Int.reduceLT, Int.reduceLE, Int.reduceToNat, Int.reduceAdd, Int.reduceSub, Int.reduceMul, reduceCtorEq, decide_true, decide_false, Nat.zero_add, Nat.add_zero, Nat.zero_mul, Nat.sub_zero, Int.toNat_natCast, true_and, and_true, false_and, and_false, ne_eq, not_false_eq_true, not_true_eq_false, beq_self_eq_true, Bool.false_eq_true, Nat.le_refl, Nat.zero_le]
  exact out_lst

theorem rcheck_ok (g : Gr) : PGood Try.prog 15 [g.val] (.tup [.i g.check.1, .i g.check.2]) := by
  refine pgood_of_out 2 (good_of_wp isF15 (Nat.le_refl _) ?_)
  unfold ac15
  simp only [go_sem, Option.isSome_some, ↓reduceIte, if_true, if_false, Nat.reduceEqDiff, Nat.reduceAdd, Nat.reduceMul, Nat.reduceSub, Nat.reduceLT, Nat.reduceLeDiff, Nat.reduceDiv, Nat.reduceMod, Nat.reduceBEq, Int.reduceNeg, Int.reduceEq, Int.reduceNe, Int.reduceLT, Int.reduceLE, Int.reduceToNat, Int.reduceAdd, Int.reduceSub, Int.reduceMul, reduceCtorEq, decide_true, decide_false, Nat.zero_add, Nat.add_zero, Nat.zero_mul, Nat.sub_zero, Int.toNat_natCast, true_and, and_true, false_and, and_false, ne_eq, not_false_eq_true, not_true_eq_false, beq_self_eq_true, Bool.false_eq_true, Nat.le_refl, Nat.zero_le, Gr.val]
  intro id hid
  simp only [go_sem, Option.isSome_some, ↓reduceIte, if_true, if_false, Nat.reduceEqDiff, Nat.reduceAdd, Nat.reduceMul, Nat.reduceSub, Nat.reduceLT, Nat.reduceLeDiff, Nat.reduceDiv, Nat.reduceMod, Nat.reduceBEq, Int.reduceNeg, Int.reduceEq, Int.reduceNe, Int.reduceLT, Int.reduceLE, Int.reduceToNat, Int.reduceAdd, Int.reduceSub, Int.reduceMul, reduceCtorEq, decide_true, decide_false, Nat.zero_add, Nat.add_zero, Nat.zero_mul, Nat.sub_zero, Int.toNat_natCast, true_and, and_true, false_and, and_false, ne_eq, not_false_eq_true, not_true_eq_false, beq_self_eq_true, Bool.false_eq_true, Nat.le_refl, Nat.zero_le]
  refine .intro (fun h1 => ?_) (fun h1 => ?_)
  · simp only [go_sem, Option.isSome_some, ↓reduceIte, if_true, if_false, Nat.reduceEqDiff, Nat.reduceAdd, Nat.reduceMul, Nat.reduceSub, Nat.reduceLT, Nat.reduceLeDiff, Nat.reduceDiv, Nat.reduceMod, Nat.reduceBEq, Int.reduceNeg, Int.reduceEq, Int.reduceNe, Int.reduceLT, Int.reduceLE, Int.reduceToNat, Int.reduceAdd, Int.reduceSub, Int.reduceMul, reduceCtorEq, decide_true, decide_false, Nat.zero_add, Nat.add_zero, Nat.zero_mul, Nat.sub_zero, Int.toNat_natCast, true_and, and_true, false_and, and_false, ne_eq, not_false_eq_true, not_true_eq_false, beq_self_eq_true, Bool.false_eq_true, Nat.le_refl, Nat.zero_le]
    have e : g.check = (-1, 6) := by unfold Gr.check; rw [if_pos (by omega)]
    rw [e]
    exact out_tup2 out_sc out_sc
  simp only [go_sem, Option.isSome_some, ↓reduceIte, if_true, if_false, Nat.reduceEqDiff, Nat.reduceAdd, Nat.reduceMul, Nat.reduceSub, Nat.reduceLT, Nat.reduceLeDiff, Nat.reduceDiv, Nat.reduceMod, Nat.reduceBEq, Int.reduceNeg, Int.reduceEq, Int.reduceNe, Int.reduceLT, Int.reduceLE, Int.reduceToNat, Int.reduceAdd, Int.reduceSub, Int.reduceMul, reduceCtorEq, decide_true, decide_false, Nat.zero_add, Nat.add_zero, Nat.zero_mul, Nat.sub_zero, Int.toNat_natCast, true_and, and_true, false_and, and_false, ne_eq, not_false_eq_true, not_true_eq_false, beq_self_eq_true, Bool.false_eq_true, Nat.le_refl, Nat.zero_le]
  by_cases h2 : g.n < 1
  · simp only [go_sem, Option.isSome_some, ↓reduceIte, if_true, if_false, Nat.reduceEqDiff, Nat.reduceAdd, Nat.reduceMul, Nat.reduceSub, Nat.reduceLT, Nat.reduceLeDiff, Nat.reduceDiv, Nat.reduceMod, Nat.reduceBEq, Int.reduceNeg, Int.reduceEq, Int.reduceNe, Int.reduceLT, Int.reduceLE, Int.reduceToNat, Int.reduceAdd, Int.reduceSub, Int.reduceMul, reduceCtorEq, decide_true, decide_false, Nat.zero_add, Nat.add_zero, Nat.zero_mul, Nat.sub_zero, Int.toNat_natCast, true_and, and_true, false_and, and_false, ne_eq, not_false_eq_true, not_true_eq_false, beq_self_eq_true, Bool.false_eq_true, Nat.le_refl, Nat.zero_le, h2]
    have e : g.check = (-1, 1) := by unfold Gr.check; rw [if_neg (by omega), if_pos (.inl h2)]
    rw [e]
    exact out_tup2 out_sc out_sc
  simp only [go_sem, Option.isSome_some, ↓reduceIte, if_true, if_false, Nat.reduceEqDiff, Nat.reduceAdd, Nat.reduceMul, Nat.reduceSub, Nat.reduceLT, Nat.reduceLeDiff, Nat.reduceDiv, Nat.reduceMod, Nat.reduceBEq, Int.reduceNeg, Int.reduceEq, Int.reduceNe, Int.reduceLT, Int.reduceLE, Int.reduceToNat, Int.reduceAdd, Int.reduceSub, Int.reduceMul, reduceCtorEq, decide_true, decide_false, Nat.zero_add, Nat.add_zero, Nat.zero_mul, Nat.sub_zero, Int.toNat_natCast, true_and, and_true, false_and, and_false, ne_eq, not_false_eq_true, not_true_eq_false, beq_self_eq_true, Bool.false_eq_true, Nat.le_refl, Nat.zero_le, h2]
  refine .intro (fun h3 => ?_) (fun h3 => ?_)
  · simp only [go_sem, Option.isSome_some, ↓reduceIte, if_true, if_false, Nat.reduceEqDiff, Nat.reduceAdd, Nat.reduceMul, Nat.reduceSub, Nat.reduceLT, Nat.reduceLeDiff, Nat.reduceDiv, Nat.reduceMod, Nat.reduceBEq, Int.reduceNeg, Int.reduceEq, Int.reduceNe, Int.reduceLT, Int.reduceLE, Int.reduceToNat, Int.reduceAdd, Int.reduceSub, Int.reduceMul, reduceCtorEq, decide_true, decide_false, Nat.zero_add, Nat.add_zero, Nat.zero_mul, Nat.sub_zero, Int.toNat_natCast, true_and, and_true, false_and, and_false, ne_eq, not_false_eq_true, not_true_eq_false, beq_self_eq_true, Bool.false_eq_true, Nat.le_refl, Nat.zero_le]
    have e : g.check = (-1, 1) := by unfold Gr.check; rw [if_neg (by omega), if_pos (.inr h3)]
    rw [e]
    exact out_tup2 out_sc out_sc
  simp only [go_sem, Option.isSome_some, ↓reduceIte, if_true, if_false, Nat.reduceEqDiff, Nat.reduceAdd, Nat.reduceMul, Nat.reduceSub, Nat.reduceLT, Nat.reduceLeDiff, Nat.reduceDiv, Nat.reduceMod, Nat.reduceBEq, Int.reduceNeg, Int.reduceEq, Int.reduceNe, Int.reduceLT, Int.reduceLE, Int.reduceToNat, Int.reduceAdd, Int.reduceSub, Int.reduceMul, reduceCtorEq, decide_true, decide_false, Nat.zero_add, Nat.add_zero, Nat.zero_mul, Nat.sub_zero, Int.toNat_natCast, true_and, and_true, false_and, and_false, ne_eq, not_false_eq_true, not_true_eq_false, beq_self_eq_true, Bool.false_eq_true, Nat.le_refl, Nat.zero_le]
  have e0 : g.check = g.firstBad g.ls 0 := by unfold Gr.check; rw [if_neg (by omega), if_neg (by omega)]
  refine loop_rule (fun m fr σ => ∃ (i : Nat), i ≤ g.ls.length ∧ m = g.ls.length - i ∧ fr = [(1, .ptr id 0 0 0), (4, .i i)] ∧
    σ.get id = some (.row 0 false 2 [[.sc (.int .i64 g.n), .lst (g.ls.map Lk.row)]]) ∧ g.check = g.firstBad (g.ls.drop i) i) g.ls.length ⟨0, by omega, rfl, rfl, by simp, e0⟩ ?_
  rintro m fr σ ⟨i, h4, rfl, rfl, h5, h6⟩
  simp only [go_sem, Option.isSome_some, ↓reduceIte, if_true, if_false, Nat.reduceEqDiff, Nat.reduceAdd, Nat.reduceMul, Nat.reduceSub, Nat.reduceLT, Nat.reduceLeDiff, Nat.reduceDiv, Nat.reduceMod, Nat.reduceBEq, Int.reduceNeg, Int.reduceEq, Int.reduceNe, Int.reduceLT, Int.reduceLE, Int.reduceToNat, Int.reduceAdd, Int.reduceSub, Int.reduceMul, reduceCtorEq, decide_true, decide_false, Nat.zero_add, Nat.add_zero, Nat.zero_mul, Nat.sub_zero, Int.toNat_natCast, true_and, and_true, false_and, and_false, ne_eq, not_false_eq_true, not_true_eq_false, beq_self_eq_true, Bool.false_eq_true, Nat.le_refl, Nat.zero_le, rowAt_get h5]
  refine .intro (fun h => ?_) (fun h => ?_)
  · have hlt : i < g.ls.length := by omega
    have hx : (g.ls.map Lk.row)[i]? = some (g.ls[i]).row := by simp [hlt]
    have hn : (0 : Int) ≤ i := by omega
    have hd : g.ls.drop i = g.ls[i] :: g.ls.drop (i + 1) := List.drop_eq_getElem_cons hlt
    rw [hd] at h6
    generalize g.ls[i] = l at *
    simp only [go_sem, Option.isSome_some, ↓reduceIte, if_true, if_false, Nat.reduceEqDiff, Nat.reduceAdd, Nat.reduceMul, Nat.reduceSub, Nat.reduceLT, Nat.reduceLeDiff, Nat.reduceDiv, Nat.reduceMod, Nat.reduceBEq, Int.reduceNeg, Int.reduceEq, Int.reduceNe, Int.reduceLT, Int.reduceLE, Int.reduceToNat, Int.reduceAdd, Int.reduceSub, Int.reduceMul, reduceCtorEq, decide_true, decide_false, Nat.zero_add, Nat.add_zero, Nat.zero_mul, Nat.sub_zero, Int.toNat_natCast, true_and, and_true, false_and, and_false, ne_eq, not_false_eq_true, not_true_eq_false, beq_self_eq_true, Bool.false_eq_true, Nat.le_refl, Nat.zero_le, hx, hn, rowAt_get h5, Lk.row]
    intro id2 hid2
    have f1 := fun o => rowAt_fresh (o := o) hid2 (j := id) (ver := 0) (by rw [rowAt_get h5]; rfl)
    have hw2 : IntKind.i64.wrap ((i : Int) + 1) = ((i + 1 : Nat) : Int) := by rw [wrap_id (by omega) (by omega)]; rfl
    by_cases c1 : l.a < 0 ∨ g.n ≤ l.a ∨ l.b < 0 ∨ g.n ≤ l.b ∨ l.a = l.b
    · have e1 : g.linkErr l = 4 := by unfold Gr.linkErr; rw [if_pos (by omega)]
      have e2 : g.check = ((i : Int), 4) := by rw [h6]; simp [Gr.firstBad, e1]
      rw [e2]
      have fin : ∀ σ : Store, Out 2 σ (.tup [.sc (.int .i64 i), .sc (.int .i64 4)]) (.tup [.i (((i : Int), (4 : Int)).1), .i (((i : Int), (4 : Int)).2)]) := fun σ => out_tup2 out_sc out_sc
      by_cases d1 : l.a < 0
      · simp only [go_sem, Option.isSome_some, ↓reduceIte, if_true, if_false, Nat.reduceEqDiff, Nat.reduceAdd, Nat.reduceMul, Nat.reduceSub, Nat.reduceLT, Nat.reduceLeDiff, Nat.reduceDiv, Nat.reduceMod, Nat.reduceBEq, Int.reduceNeg, Int.reduceEq, Int.reduceNe, Int.reduceLT, Int.reduceLE, Int.reduceToNat, Int.reduceAdd, Int.reduceSub, Int.reduceMul, reduceCtorEq, decide_true, decide_false, Nat.zero_add, Nat.add_zero, Nat.zero_mul, Nat.sub_zero, Int.toNat_natCast, true_and, and_true, false_and, and_false, ne_eq, not_false_eq_true, not_true_eq_false, beq_self_eq_true, Bool.false_eq_true, Nat.le_refl, Nat.zero_le, f1, rowAt_get h5, d1]
        exact fin _
      · by_cases d2 : g.n ≤ l.a
        · simp only [go_sem, Option.isSome_some, ↓reduceIte, if_true, if_false, Nat.reduceEqDiff, Nat.reduceAdd, Nat.reduceMul, Nat.reduceSub, Nat.reduceLT, Nat.reduceLeDiff, Nat.reduceDiv, Nat.reduceMod, Nat.reduceBEq, Int.reduceNeg, Int.reduceEq, Int.reduceNe, Int.reduceLT, Int.reduceLE, Int.reduceToNat, Int.reduceAdd, Int.reduceSub, Int.reduceMul, reduceCtorEq, decide_true, decide_false, Nat.zero_add, Nat.add_zero, Nat.zero_mul, Nat.sub_zero, Int.toNat_natCast, true_and, and_true, false_and, and_false, ne_eq, not_false_eq_true, not_true_eq_false, beq_self_eq_true, Bool.false_eq_true, Nat.le_refl, Nat.zero_le, f1, rowAt_get h5, d1, d2]
          exact fin _
        · by_cases d3 : l.b < 0
          · simp only [go_sem, Option.isSome_some, ↓reduceIte, if_true, if_false, Nat.reduceEqDiff, Nat.reduceAdd, Nat.reduceMul, Nat.reduceSub, Nat.reduceLT, Nat.reduceLeDiff, Nat.reduceDiv, Nat.reduceMod, Nat.reduceBEq, Int.reduceNeg, Int.reduceEq, Int.reduceNe, Int.reduceLT, Int.reduceLE, Int.reduceToNat, Int.reduceAdd, Int.reduceSub, Int.reduceMul, reduceCtorEq, decide_true, decide_false, Nat.zero_add, Nat.add_zero, Nat.zero_mul, Nat.sub_zero, Int.toNat_natCast, true_and, and_true, false_and, and_false, ne_eq, not_false_eq_true, not_true_eq_false, beq_self_eq_true, Bool.false_eq_true, Nat.le_refl, Nat.zero_le, f1, rowAt_get h5, d1, d2, d3]
            exact fin _
          · by_cases d4 : g.n ≤ l.b
            · simp only [go_sem, Option.isSome_some, ↓reduceIte, if_true, if_false, Nat.reduceEqDiff, Nat.reduceAdd, Nat.reduceMul, Nat.reduceSub, Nat.reduceLT, Nat.reduceLeDiff, Nat.reduceDiv, Nat.reduceMod, Nat.reduceBEq, Int.reduceNeg, Int.reduceEq, Int.reduceNe, Int.reduceLT, Int.reduceLE, Int.reduceToNat, Int.reduceAdd, Int.reduceSub, Int.reduceMul, reduceCtorEq, decide_true, decide_false, Nat.zero_add, Nat.add_zero, Nat.zero_mul, Nat.sub_zero, Int.toNat_natCast, true_and, and_true, false_and, and_false, ne_eq, not_false_eq_true, not_true_eq_false, beq_self_eq_true, Bool.false_eq_true, Nat.le_refl, Nat.zero_le, f1, rowAt_get h5, d1, d2, d3, d4]
              exact fin _
            · have d5 : l.a = l.b := by omega
              simp only [go_sem, Option.isSome_some, ↓reduceIte, if_true, if_false, Nat.reduceEqDiff, Nat.reduceAdd, Nat.reduceMul, Nat.reduceSub, Nat.reduceLT, Nat.reduceLeDiff, Nat.reduceDiv, Nat.reduceMod, Nat.reduceBEq, Int.reduceNeg, Int.reduceEq, Int.reduceNe, Int.reduceLT, Int.reduceLE, Int.reduceToNat, Int.reduceAdd, Int.reduceSub, Int.reduceMul, reduceCtorEq, decide_true, decide_false, Nat.zero_add, Nat.add_zero, Nat.zero_mul, Nat.sub_zero, Int.toNat_natCast, true_and, and_true, false_and, and_false, ne_eq, not_false_eq_true, not_true_eq_false, beq_self_eq_true, Bool.false_eq_true, Nat.le_refl, Nat.zero_le, f1, rowAt_get h5, d1, d2, d3, d4, d5]
              exact fin _
    · have d1 : ¬ l.a < 0 := by omega
      have d2 : ¬ g.n ≤ l.a := by omega
      have d3 : ¬ l.b < 0 := by omega
      have d4 : ¬ g.n ≤ l.b := by omega
      have d5 : ¬ l.a = l.b := by omega
      simp only [go_sem, Option.isSome_some, ↓reduceIte, if_true, if_false, Nat.reduceEqDiff, Nat.reduceAdd, Nat.reduceMul, Nat.reduceSub, Nat.reduceLT, Nat.reduceLeDiff, Nat.reduceDiv, Nat.reduceMod, Nat.reduceBEq, Int.reduceNeg, Int.reduceEq, Int.reduceNe, Int.reduceLT, Int.reduceLE, Int.reduceToNat, Int.reduceAdd, Int.reduceSub, Int.reduceMul, reduceCtorEq, decide_true, decide_false, Nat.zero_add, Nat.add_zero, Nat.zero_mul, Nat.sub_zero, Int.toNat_natCast, true_and, and_true, false_and, and_false, ne_eq, not_false_eq_true, not_true_eq_false, beq_self_eq_true, Bool.false_eq_true, Nat.le_refl, Nat.zero_le, f1, rowAt_get h5, d1, d2, d3, d4, d5]
      by_cases c2 : l.m < 1 ∨ 16777216 < l.m ∨ l.c < 0 ∨ 62 < l.c
      · have e1 : g.linkErr l = 1 := by unfold Gr.linkErr; rw [if_neg (by omega), if_pos c2]
        have e2 : g.check = ((i : Int), 1) := by rw [h6]; simp [Gr.firstBad, e1]
        rw [e2]
        have fin : ∀ σ : Store, Out 2 σ (.tup [.sc (.int .i64 i), .sc (.int .i64 1)]) (.tup [.i (((i : Int), (1 : Int)).1), .i (((i : Int), (1 : Int)).2)]) := fun σ => out_tup2 out_sc out_sc
        by_cases d6 : l.m < 1
        · simp only [go_sem, Option.isSome_some, ↓reduceIte, if_true, if_false, Nat.reduceEqDiff, Nat.reduceAdd, Nat.reduceMul, Nat.reduceSub, Nat.reduceLT, Nat.reduceLeDiff, Nat.reduceDiv, Nat.reduceMod, Nat.reduceBEq, Int.reduceNeg, Int.reduceEq, Int.reduceNe, Int.reduceLT, Int.reduceLE, Int.reduceToNat, Int.reduceAdd, Int.reduceSub, Int.reduceMul, reduceCtorEq, decide_true, decide_false, Nat.zero_add, Nat.add_zero, Nat.zero_mul, Nat.sub_zero, Int.toNat_natCast, true_and, and_true, false_and, and_false, ne_eq, not_false_eq_true, not_true_eq_false, beq_self_eq_true, Bool.false_eq_true, Nat.le_refl, Nat.zero_le, d6]
          exact fin _
        · by_cases d7 : 16777216 < l.m
          · simp only [go_sem, Option.isSome_some, ↓reduceIte, if_true, if_false, Nat.reduceEqDiff, Nat.reduceAdd, Nat.reduceMul, Nat.reduceSub, Nat.reduceLT, Nat.reduceLeDiff, Nat.reduceDiv, Nat.reduceMod, Nat.reduceBEq, Int.reduceNeg, Int.reduceEq, Int.reduceNe, Int.reduceLT, Int.reduceLE, Int.reduceToNat, Int.reduceAdd, Int.reduceSub, Int.reduceMul, reduceCtorEq, decide_true, decide_false, Nat.zero_add, Nat.add_zero, Nat.zero_mul, Nat.sub_zero, Int.toNat_natCast, true_and, and_true, false_and, and_false, ne_eq, not_false_eq_true, not_true_eq_false, beq_self_eq_true, Bool.false_eq_true, Nat.le_refl, Nat.zero_le, d6, d7]
            exact fin _
          · by_cases d8 : l.c < 0
            · simp only [go_sem, Option.isSome_some, ↓reduceIte, if_true, if_false, Nat.reduceEqDiff, Nat.reduceAdd, Nat.reduceMul, Nat.reduceSub, Nat.reduceLT, Nat.reduceLeDiff, Nat.reduceDiv, Nat.reduceMod, Nat.reduceBEq, Int.reduceNeg, Int.reduceEq, Int.reduceNe, Int.reduceLT, Int.reduceLE, Int.reduceToNat, Int.reduceAdd, Int.reduceSub, Int.reduceMul, reduceCtorEq, decide_true, decide_false, Nat.zero_add, Nat.add_zero, Nat.zero_mul, Nat.sub_zero, Int.toNat_natCast, true_and, and_true, false_and, and_false, ne_eq, not_false_eq_true, not_true_eq_false, beq_self_eq_true, Bool.false_eq_true, Nat.le_refl, Nat.zero_le, d6, d7, d8]
              exact fin _
            · have d9 : 62 < l.c := by omega
              simp only [go_sem, Option.isSome_some, ↓reduceIte, if_true, if_false, Nat.reduceEqDiff, Nat.reduceAdd, Nat.reduceMul, Nat.reduceSub, Nat.reduceLT, Nat.reduceLeDiff, Nat.reduceDiv, Nat.reduceMod, Nat.reduceBEq, Int.reduceNeg, Int.reduceEq, Int.reduceNe, Int.reduceLT, Int.reduceLE, Int.reduceToNat, Int.reduceAdd, Int.reduceSub, Int.reduceMul, reduceCtorEq, decide_true, decide_false, Nat.zero_add, Nat.add_zero, Nat.zero_mul, Nat.sub_zero, Int.toNat_natCast, true_and, and_true, false_and, and_false, ne_eq, not_false_eq_true, not_true_eq_false, beq_self_eq_true, Bool.false_eq_true, Nat.le_refl, Nat.zero_le, d6, d7, d8, d9]
              exact fin _
      · have d6 : ¬ l.m < 1 := by omega
        have d7 : ¬ 16777216 < l.m := by omega
        have d8 : ¬ l.c < 0 := by omega
        have d9 : ¬ 62 < l.c := by omega
        have e1 : g.linkErr l = 0 := by unfold Gr.linkErr; rw [if_neg (by omega), if_neg c2]
        simp only [go_sem, Option.isSome_some, ↓reduceIte, if_true, if_false, Nat.reduceEqDiff, Nat.reduceAdd, Nat.reduceMul, Nat.reduceSub, Nat.reduceLT, Nat.reduceLeDiff, Nat.reduceDiv, Nat.reduceMod, Nat.reduceBEq, Int.reduceNeg, Int.reduceEq, Int.reduceNe, Int.reduceLT, Int.reduceLE, Int.reduceToNat, Int.reduceAdd, Int.reduceSub, Int.reduceMul, reduceCtorEq, decide_true, decide_false, Nat.zero_add, Nat.add_zero, Nat.zero_mul, Nat.sub_zero, Int.toNat_natCast, true_and, and_true, false_and, and_false, ne_eq, not_false_eq_true, not_true_eq_false, beq_self_eq_true, Bool.false_eq_true, Nat.le_refl, Nat.zero_le, d6, d7, d8, d9, hw2]
        refine back_of _ ?_ ⟨i + 1, by omega, rfl, rfl, ?_, ?_⟩
        · omega
        · rw [get_fresh hid2 (by rw [h5]; rfl), h5]
        · rw [h6]; simp [Gr.firstBad, e1]
  · simp only [go_sem, Option.isSome_some, ↓reduceIte, if_true, if_false, Nat.reduceEqDiff, Nat.reduceAdd, Nat.reduceMul, Nat.reduceSub, Nat.reduceLT, Nat.reduceLeDiff, Nat.reduceDiv, Nat.reduceMod, Nat.reduceBEq, Int.reduceNeg, Int.reduceEq, Int.reduceNe, Int.reduceLT, Int.reduceLE, Int.reduceToNat, Int.reduceAdd, Int.reduceSub, Int.reduceMul, reduceCtorEq, decide_true, decide_false, Nat.zero_add, Nat.add_zero, Nat.zero_mul, Nat.sub_zero, Int.toNat_natCast, true_and, and_true, false_and, and_false, ne_eq, not_false_eq_true, not_true_eq_false, beq_self_eq_true, Bool.false_eq_true, Nat.le_refl, Nat.zero_le]
    have e : i = g.ls.length := by omega
    subst e
    rw [h6, List.drop_length]
    exact out_tup2 out_sc out_sc
end Go.Proofs

set_option linter.unusedSimpArgs false
set_option linter.unusedVariables false
namespace Go.Proofs
open Go.Ab

/-! ### The reference's distances -/
def bfCond (g : Gr) (down : List Bool) (d : List Int) (k : Nat) : Prop :=
  0 ≤ d.getD (g.ends k).1.toNat 0 ∧ isDown down ((k : Int) / 2) = false ∧ (d.getD (g.ends k).2.1.toNat 0 < 0 ∨ d.getD (g.ends k).1.toNat 0 + g.metric k < d.getD (g.ends k).2.1.toNat 0)
instance (g : Gr) (down : List Bool) (d : List Int) (k : Nat) : Decidable (bfCond g down d k) := by unfold bfCond; infer_instance
def bfStep (g : Gr) (down : List Bool) (s : List Int × Bool) (k : Nat) : List Int × Bool :=
  if bfCond g down s.1 k then (s.1.set (g.ends k).2.1.toNat (s.1.getD (g.ends k).1.toNat 0 + g.metric k), true) else s
def bfSweep (g : Gr) (down : List Bool) (d : List Int) : List Int × Bool := (List.range (2 * g.ls.length)).foldl (bfStep g down) (d, false)
def bf (g : Gr) (down : List Bool) : Nat → List Int → List Int
  | 0, d => d
  | f + 1, d => if (bfSweep g down d).2 then bf g down f (bfSweep g down d).1 else (bfSweep g down d).1
def big : Int := 687865856
/-- How far a list of distances may still fall. -/
def pot (d : List Int) : Int := (d.map fun x => if x < 0 then big else x).sum
def refFrom (g : Gr) (down : List Bool) (node : Int) : List Int :=
  if g.check.2 = 0 ∧ 0 ≤ node ∧ node < g.n then bf g down (pot ((List.replicate g.n.toNat (-1)).set node.toNat 0)).toNat.succ ((List.replicate g.n.toNat (-1)).set node.toNat 0) else []

/-- Every distance is small. -/
def Small (d : List Int) : Prop := ∀ x ∈ d, x = -1 ∨ (0 ≤ x ∧ x ≤ ((d.length - (d.filter (· < 0)).length : Nat) : Int) * 16777216 - 16777216)

theorem pot_set {d : List Int} {i : Nat} {x : Int} (hi : i < d.length) : pot (d.set i x) = pot d - (if d[i] < 0 then big else d[i]) + (if x < 0 then big else x) := by
  unfold pot
  induction d generalizing i with
  | nil => simp at hi
  | cons y r ih =>
    cases i with
    | zero => simp; omega
    | succ i =>
      have := ih (i := i) (by simpa using hi)
      simp only [List.set_cons_succ, List.map_cons, List.sum_cons, List.getElem_cons_succ, this]
      omega
theorem pot_nonneg (d : List Int) : 0 ≤ pot d := by
  unfold pot
  induction d with
  | nil => simp
  | cons y r ih =>
    simp only [List.map_cons, List.sum_cons]
    have : 0 ≤ (if y < 0 then big else y) := by
      split
      · decide
      · omega
    omega
theorem neg_set {d : List Int} {i : Nat} {x : Int} (hi : i < d.length) (hx : 0 ≤ x) : ((d.set i x).filter (· < 0)).length + (if d[i] < 0 then 1 else 0) = (d.filter (· < 0)).length := by
  induction d generalizing i with
  | nil => simp at hi
  | cons y r ih =>
    cases i with
    | zero =>
      have hx' : ¬ x < 0 := by omega
      by_cases hy : y < 0 <;> simp [hx', hy]
    | succ i =>
      have := ih (i := i) (by simpa using hi)
      by_cases hy : y < 0 <;> simp [hy] <;> omega
theorem neg_le (d : List Int) : (d.filter (· < 0)).length ≤ d.length := List.length_filter_le _ _

theorem Small.step {d : List Int} (h : Small d) {i : Nat} {a m : Int} (hi : i < d.length) (ha : a ∈ d) (h0 : 0 ≤ a) (hm : 1 ≤ m) (hm2 : m ≤ 16777216) (hlt : d[i] < 0 ∨ a + m < d[i]) : Small (d.set i (a + m)) := by
  have e := neg_set (x := a + m) hi (by omega)
  have l1 := neg_le d
  have hsm := h a ha
  intro x hx
  rw [List.length_set]
  rcases List.mem_or_eq_of_mem_set hx with h1 | h1
  · rcases h x h1 with h2 | ⟨h2, h3⟩
    · exact .inl h2
    · refine .inr ⟨h2, ?_⟩
      split at e <;> omega
  · subst h1
    refine .inr ⟨by omega, ?_⟩
    rcases hlt with h2 | h2
    · rw [if_pos h2] at e
      omega
    · have h3 := h d[i] (List.getElem_mem hi)
      split at e <;> omega

theorem ref_from_ok (g : Gr) (down : List Bool) (node : Int) : PGood Try.prog 16 [g.val, .lst (bools down), .i node] (.lst (ints (refFrom g down node))) := by
  refine pgood_of_out 2 (good_of_wp isF16 (Nat.le_refl _) ?_)
  unfold ac16
  simp only [go_sem, Option.isSome_some, ↓reduceIte, if_true, if_false, Nat.reduceEqDiff, Nat.reduceAdd, Nat.reduceMul, Nat.reduceSub, Nat.reduceLT, Nat.reduceLeDiff, Nat.reduceDiv, Nat.reduceMod, Nat.reduceBEq, Int.reduceNeg, Int.reduceEq, Int.reduceNe, Int.reduceLT, Int.reduceLE, Int.reduceToNat, Int.reduceAdd, Int.reduceSub, Int.reduceMul, reduceCtorEq, decide_true, decide_false, Nat.zero_add, Nat.add_zero, Nat.zero_mul, Nat.sub_zero, Int.toNat_natCast, true_and, and_true, false_and, and_false, ne_eq, not_false_eq_true, not_true_eq_false, beq_self_eq_true, Bool.false_eq_true, Nat.le_refl, Nat.zero_le, Gr.val]
  intro gid hgid
  simp only [go_sem, Option.isSome_some, ↓reduceIte, if_true, if_false, Nat.reduceEqDiff, Nat.reduceAdd, Nat.reduceMul, Nat.reduceSub, Nat.reduceLT, Nat.reduceLeDiff, Nat.reduceDiv, Nat.reduceMod, Nat.reduceBEq, Int.reduceNeg, Int.reduceEq, Int.reduceNe, Int.reduceLT, Int.reduceLE, Int.reduceToNat, Int.reduceAdd, Int.reduceSub, Int.reduceMul, reduceCtorEq, decide_true, decide_false, Nat.zero_add, Nat.add_zero, Nat.zero_mul, Nat.sub_zero, Int.toNat_natCast, true_and, and_true, false_and, and_false, ne_eq, not_false_eq_true, not_true_eq_false, beq_self_eq_true, Bool.false_eq_true, Nat.le_refl, Nat.zero_le]
  refine good_imm (rcheck_ok g) rfl ?_
  simp only [go_sem, Option.isSome_some, ↓reduceIte, if_true, if_false, Nat.reduceEqDiff, Nat.reduceAdd, Nat.reduceMul, Nat.reduceSub, Nat.reduceLT, Nat.reduceLeDiff, Nat.reduceDiv, Nat.reduceMod, Nat.reduceBEq, Int.reduceNeg, Int.reduceEq, Int.reduceNe, Int.reduceLT, Int.reduceLE, Int.reduceToNat, Int.reduceAdd, Int.reduceSub, Int.reduceMul, reduceCtorEq, decide_true, decide_false, Nat.zero_add, Nat.add_zero, Nat.zero_mul, Nat.sub_zero, Int.toNat_natCast, true_and, and_true, false_and, and_false, ne_eq, not_false_eq_true, not_true_eq_false, beq_self_eq_true, Bool.false_eq_true, Nat.le_refl, Nat.zero_le]
  by_cases hc : g.check.2 = 0
  case neg =>
    simp only [go_sem, Option.isSome_some, ↓reduceIte, if_true, if_false, Nat.reduceEqDiff, Nat.reduceAdd, Nat.reduceMul, Nat.reduceSub, Nat.reduceLT, Nat.reduceLeDiff, Nat.reduceDiv, Nat.reduceMod, Nat.reduceBEq, Int.reduceNeg, Int.reduceEq, Int.reduceNe, Int.reduceLT, Int.reduceLE, Int.reduceToNat, Int.reduceAdd, Int.reduceSub, Int.reduceMul, reduceCtorEq, decide_true, decide_false, Nat.zero_add, Nat.add_zero, Nat.zero_mul, Nat.sub_zero, Int.toNat_natCast, true_and, and_true, false_and, and_false, ne_eq, not_false_eq_true, not_true_eq_false, beq_self_eq_true, Bool.false_eq_true, Nat.le_refl, Nat.zero_le, hc]
    have e : refFrom g down node = [] := by unfold refFrom; rw [if_neg (fun h => hc h.1)]
    rw [e]
    exact out_nils
  simp only [go_sem, Option.isSome_some, ↓reduceIte, if_true, if_false, Nat.reduceEqDiff, Nat.reduceAdd, Nat.reduceMul, Nat.reduceSub, Nat.reduceLT, Nat.reduceLeDiff, Nat.reduceDiv, Nat.reduceMod, Nat.reduceBEq, Int.reduceNeg, Int.reduceEq, Int.reduceNe, Int.reduceLT, Int.reduceLE, Int.reduceToNat, Int.reduceAdd, Int.reduceSub, Int.reduceMul, reduceCtorEq, decide_true, decide_false, Nat.zero_add, Nat.add_zero, Nat.zero_mul, Nat.sub_zero, Int.toNat_natCast, true_and, and_true, false_and, and_false, ne_eq, not_false_eq_true, not_true_eq_false, beq_self_eq_true, Bool.false_eq_true, Nat.le_refl, Nat.zero_le, hc]
  refine good_imm (node_ok g.n (.lst (g.ls.map Lk.row)) node) rfl ?_
  simp only [go_sem, Option.isSome_some, ↓reduceIte, if_true, if_false, Nat.reduceEqDiff, Nat.reduceAdd, Nat.reduceMul, Nat.reduceSub, Nat.reduceLT, Nat.reduceLeDiff, Nat.reduceDiv, Nat.reduceMod, Nat.reduceBEq, Int.reduceNeg, Int.reduceEq, Int.reduceNe, Int.reduceLT, Int.reduceLE, Int.reduceToNat, Int.reduceAdd, Int.reduceSub, Int.reduceMul, reduceCtorEq, decide_true, decide_false, Nat.zero_add, Nat.add_zero, Nat.zero_mul, Nat.sub_zero, Int.toNat_natCast, true_and, and_true, false_and, and_false, ne_eq, not_false_eq_true, not_true_eq_false, beq_self_eq_true, Bool.false_eq_true, Nat.le_refl, Nat.zero_le]
  refine .intro (fun hn => ?_) (fun hn => ?_)
  case refine_2 =>
    simp only [go_sem, Option.isSome_some, ↓reduceIte, if_true, if_false, Nat.reduceEqDiff, Nat.reduceAdd, Nat.reduceMul, Nat.reduceSub, Nat.reduceLT, Nat.reduceLeDiff, Nat.reduceDiv, Nat.reduceMod, Nat.reduceBEq, Int.reduceNeg, Int.reduceEq, Int.reduceNe, Int.reduceLT, Int.reduceLE, Int.reduceToNat, Int.reduceAdd, Int.reduceSub, Int.reduceMul, reduceCtorEq, decide_true, decide_false, Nat.zero_add, Nat.add_zero, Nat.zero_mul, Nat.sub_zero, Int.toNat_natCast, true_and, and_true, false_and, and_false, ne_eq, not_false_eq_true, not_true_eq_false, beq_self_eq_true, Bool.false_eq_true, Nat.le_refl, Nat.zero_le]
    have e : refFrom g down node = [] := by unfold refFrom; rw [if_neg (fun h => hn h.2)]
    rw [e]
    exact out_nils
  obtain ⟨k1, k2, k3, k4⟩ := g.check_ok.1 hc
  have hok : g.Ok := ⟨k1, k2, k3, k4⟩
  have n1 : (0 : Int) ≤ g.n := by omega
  have n2 : g.n ≤ 9223372036854775807 := by omega
  have n3 : g.n.toNat * 8 ≤ 281474976710656 := by omega
  simp only [go_sem, Option.isSome_some, ↓reduceIte, if_true, if_false, Nat.reduceEqDiff, Nat.reduceAdd, Nat.reduceMul, Nat.reduceSub, Nat.reduceLT, Nat.reduceLeDiff, Nat.reduceDiv, Nat.reduceMod, Nat.reduceBEq, Int.reduceNeg, Int.reduceEq, Int.reduceNe, Int.reduceLT, Int.reduceLE, Int.reduceToNat, Int.reduceAdd, Int.reduceSub, Int.reduceMul, reduceCtorEq, decide_true, decide_false, Nat.zero_add, Nat.add_zero, Nat.zero_mul, Nat.sub_zero, Int.toNat_natCast, true_and, and_true, false_and, and_false, ne_eq, not_false_eq_true, not_true_eq_false, beq_self_eq_true, Bool.false_eq_true, Nat.le_refl, Nat.zero_le, n1, n2, n3]
  intro oid hoid
  have hne1 : gid ≠ oid := fun e => by rw [← e] at hoid; simp at hoid
  have e1 : refFrom g down node = bf g down (pot ((List.replicate g.n.toNat (-1)).set node.toNat 0)).toNat.succ ((List.replicate g.n.toNat (-1)).set node.toNat 0) := by unfold refFrom; rw [if_pos ⟨hc, hn⟩]
  have grow : ∀ o, ((Store.empty.set gid (.row 0 false 2 [[.sc (.int .i64 g.n), .lst (g.ls.map Lk.row)]])).set oid o).get gid = some (.row 0 false 2 [[.sc (.int .i64 g.n), .lst (g.ls.map Lk.row)]]) := fun o => by
    rw [Store.get_set_ne _ _ hne1, Store.get_set_self]
  simp only [go_sem, Option.isSome_some, ↓reduceIte, if_true, if_false, Nat.reduceEqDiff, Nat.reduceAdd, Nat.reduceMul, Nat.reduceSub, Nat.reduceLT, Nat.reduceLeDiff, Nat.reduceDiv, Nat.reduceMod, Nat.reduceBEq, Int.reduceNeg, Int.reduceEq, Int.reduceNe, Int.reduceLT, Int.reduceLE, Int.reduceToNat, Int.reduceAdd, Int.reduceSub, Int.reduceMul, reduceCtorEq, decide_true, decide_false, Nat.zero_add, Nat.add_zero, Nat.zero_mul, Nat.sub_zero, Int.toNat_natCast, true_and, and_true, false_and, and_false, ne_eq, not_false_eq_true, not_true_eq_false, beq_self_eq_true, Bool.false_eq_true, Nat.le_refl, Nat.zero_le]
  refine loop_rule (fun m fr σ => ∃ (i : Nat) (out : List Int), i ≤ g.n.toNat ∧ m = g.n.toNat - i ∧ fr = [(1, .lst (bools down)), (2, .i node), (3, .ptr gid 0 0 0), (9, .sl oid 0 0 g.n.toNat 1), (10, .i i)] ∧
    out = List.replicate i (-1) ++ List.replicate (g.n.toNat - i) 0 ∧ σ.get oid = some (.row 0 false 1 (ints out)) ∧ σ.get gid = some (.row 0 false 2 [[.sc (.int .i64 g.n), .lst (g.ls.map Lk.row)]])) g.n.toNat
    ⟨0, List.replicate g.n.toNat 0, by omega, by omega, rfl, by simp, by simp [ints_rep], grow _⟩ ?_
  rintro m fr σ ⟨i, out, h1, rfl, rfl, h2, h3, h4⟩
  have hlen : out.length = g.n.toNat := by rw [h2]; simp; omega
  simp only [go_sem, Option.isSome_some, ↓reduceIte, if_true, if_false, Nat.reduceEqDiff, Nat.reduceAdd, Nat.reduceMul, Nat.reduceSub, Nat.reduceLT, Nat.reduceLeDiff, Nat.reduceDiv, Nat.reduceMod, Nat.reduceBEq, Int.reduceNeg, Int.reduceEq, Int.reduceNe, Int.reduceLT, Int.reduceLE, Int.reduceToNat, Int.reduceAdd, Int.reduceSub, Int.reduceMul, reduceCtorEq, decide_true, decide_false, Nat.zero_add, Nat.add_zero, Nat.zero_mul, Nat.sub_zero, Int.toNat_natCast, true_and, and_true, false_and, and_false, ne_eq, not_false_eq_true, not_true_eq_false, beq_self_eq_true, Bool.false_eq_true, Nat.le_refl, Nat.zero_le, rowAt_get h4]
  refine .intro (fun h => ?_) (fun h => ?_)
  · have hi : i < out.length := by omega
    have x1 : (ints out)[i]? = some [.sc (.int .i64 out[i])] := ints_get (List.getElem?_eq_getElem hi)
    have n4 : (0 : Int) ≤ i := by omega
    have n5 : (i : Int) < g.n.toNat := by omega
    have w1 : IntKind.i64.wrap ((i : Int) + 1) = ((i + 1 : Nat) : Int) := by rw [wrap_id (by omega) (by omega)]; rfl
    simp only [go_sem, Option.isSome_some, ↓reduceIte, if_true, if_false, Nat.reduceEqDiff, Nat.reduceAdd, Nat.reduceMul, Nat.reduceSub, Nat.reduceLT, Nat.reduceLeDiff, Nat.reduceDiv, Nat.reduceMod, Nat.reduceBEq, Int.reduceNeg, Int.reduceEq, Int.reduceNe, Int.reduceLT, Int.reduceLE, Int.reduceToNat, Int.reduceAdd, Int.reduceSub, Int.reduceMul, reduceCtorEq, decide_true, decide_false, Nat.zero_add, Nat.add_zero, Nat.zero_mul, Nat.sub_zero, Int.toNat_natCast, true_and, and_true, false_and, and_false, ne_eq, not_false_eq_true, not_true_eq_false, beq_self_eq_true, Bool.false_eq_true, Nat.le_refl, Nat.zero_le, n4, n5, rowAt_get h3, x1, w1]
    refine back_of _ ?_ ⟨i + 1, out.set i (-1), by omega, rfl, rfl, ?_, ?_, ?_⟩
    · omega
    · rw [h2, List.set_append_right _ _ (by simp), List.replicate_succ', List.length_replicate, Nat.sub_self]
      obtain ⟨k, hk⟩ : ∃ k, g.n.toNat - i = k + 1 := ⟨g.n.toNat - i - 1, by omega⟩
      rw [hk, show g.n.toNat - (i + 1) = k by omega, List.replicate_succ]
      simp
    · rw [Store.get_set_self, ints_set]
    · rw [Store.get_set_ne _ _ hne1, h4]
  · simp only [go_sem, Option.isSome_some, ↓reduceIte, if_true, if_false, Nat.reduceEqDiff, Nat.reduceAdd, Nat.reduceMul, Nat.reduceSub, Nat.reduceLT, Nat.reduceLeDiff, Nat.reduceDiv, Nat.reduceMod, Nat.reduceBEq, Int.reduceNeg, Int.reduceEq, Int.reduceNe, Int.reduceLT, Int.reduceLE, Int.reduceToNat, Int.reduceAdd, Int.reduceSub, Int.reduceMul, reduceCtorEq, decide_true, decide_false, Nat.zero_add, Nat.add_zero, Nat.zero_mul, Nat.sub_zero, Int.toNat_natCast, true_and, and_true, false_and, and_false, ne_eq, not_false_eq_true, not_true_eq_false, beq_self_eq_true, Bool.false_eq_true, Nat.le_refl, Nat.zero_le]
    have e : i = g.n.toNat := by omega
    subst e
    rw [Nat.sub_self, List.replicate_zero, List.append_nil] at h2
    have hi : node.toNat < out.length := by omega
    have x1 : (ints out)[node.toNat]? = some [.sc (.int .i64 out[node.toNat])] := ints_get (List.getElem?_eq_getElem hi)
    have n4 : (0 : Int) ≤ node := by omega
    have n5 : node < (g.n.toNat : Int) := by omega
    simp only [go_sem, Option.isSome_some, ↓reduceIte, if_true, if_false, Nat.reduceEqDiff, Nat.reduceAdd, Nat.reduceMul, Nat.reduceSub, Nat.reduceLT, Nat.reduceLeDiff, Nat.reduceDiv, Nat.reduceMod, Nat.reduceBEq, Int.reduceNeg, Int.reduceEq, Int.reduceNe, Int.reduceLT, Int.reduceLE, Int.reduceToNat, Int.reduceAdd, Int.reduceSub, Int.reduceMul, reduceCtorEq, decide_true, decide_false, Nat.zero_add, Nat.add_zero, Nat.zero_mul, Nat.sub_zero, Int.toNat_natCast, true_and, and_true, false_and, and_false, ne_eq, not_false_eq_true, not_true_eq_false, beq_self_eq_true, Bool.false_eq_true, Nat.le_refl, Nat.zero_le, n4, n5, rowAt_get h3, x1]
    have hd0 : out.set node.toNat 0 = (List.replicate g.n.toNat (-1)).set node.toNat 0 := by rw [h2]
    have hrow0 : (ints out).set node.toNat [.sc (.int .i64 0)] = ints (out.set node.toNat 0) := (ints_set _ _ _).symm
    rw [hrow0]
    have hsm0 : Small (out.set node.toNat 0) := by
      intro x hx
      rcases List.mem_or_eq_of_mem_set hx with h5 | h5
      · rw [h2] at h5; exact .inl (List.mem_replicate.1 h5).2
      · subst h5
        refine .inr ⟨Int.le_refl _, ?_⟩
        have e5 := neg_set (x := 0) hi (Int.le_refl _)
        have l5 := neg_le out
        have e6 : out[node.toNat] = -1 := by
          have h7 : ∀ x ∈ out, x = -1 := fun x hx => by rw [h2] at hx; exact (List.mem_replicate.1 hx).2
          exact h7 _ (List.getElem_mem hi)
        rw [e6] at e5
        simp at e5 ⊢
        omega
    refine loop_rule (fun m fr σ => ∃ (f : Nat) (d : List Int) (more : Bool), m = (if more then (pot d).toNat + 1 else 0) ∧ fr = [(1, .lst (bools down)), (3, .ptr gid 0 0 0), (9, .sl oid 0 0 g.n.toNat 1), (11, .b more)] ∧ d.length = g.n.toNat ∧
      σ.get oid = some (.row 0 false 1 (ints d)) ∧ σ.get gid = some (.row 0 false 2 [[.sc (.int .i64 g.n), .lst (g.ls.map Lk.row)]]) ∧ Small d ∧
      (if more then (pot d).toNat < f ∧ bf g down f d = refFrom g down node else d = refFrom g down node)) _
      ⟨(pot (out.set node.toNat 0)).toNat.succ, out.set node.toNat 0, true, rfl, rfl, by simpa using hlen, by simp, by rw [Store.get_set_ne _ _ hne1, h4], hsm0, by rw [if_pos rfl]; exact ⟨Nat.lt_succ_self _, by rw [e1, ← hd0]⟩⟩ ?_
    clear h h2 h3 h4 hlen hi x1 hd0 hrow0 hsm0
    rintro m fr σ2 ⟨f, d, more, rfl, rfl, hlen, o1, g1, hsm, hfin⟩
    cases more with
    | false =>
      simp only [go_sem, Option.isSome_some, ↓reduceIte, if_true, if_false, Nat.reduceEqDiff, Nat.reduceAdd, Nat.reduceMul, Nat.reduceSub, Nat.reduceLT, Nat.reduceLeDiff, Nat.reduceDiv, Nat.reduceMod, Nat.reduceBEq, Int.reduceNeg, Int.reduceEq, Int.reduceNe, Int.reduceLT, Int.reduceLE, Int.reduceToNat, Int.reduceAdd, Int.reduceSub, Int.reduceMul, reduceCtorEq, decide_true, decide_false, Nat.zero_add, Nat.add_zero, Nat.zero_mul, Nat.sub_zero, Int.toNat_natCast, true_and, and_true, false_and, and_false, ne_eq, not_false_eq_true, not_true_eq_false, beq_self_eq_true, Bool.false_eq_true, Nat.le_refl, Nat.zero_le]
      simp only [Bool.false_eq_true, if_false] at hfin
      rw [← hfin]
      exact out_sl (rowAt_get o1) (by rw [ints_len]; omega) (by rw [List.drop_zero, ← hlen, ← ints_len, List.take_length]) (ints_sc _)
    | true =>
      simp only [if_true] at hfin
      obtain ⟨hf, hbf⟩ := hfin
      obtain ⟨f', rfl⟩ : ∃ f', f = f' + 1 := ⟨f - 1, by omega⟩
      simp only [go_sem, Option.isSome_some, ↓reduceIte, if_true, if_false, Nat.reduceEqDiff, Nat.reduceAdd, Nat.reduceMul, Nat.reduceSub, Nat.reduceLT, Nat.reduceLeDiff, Nat.reduceDiv, Nat.reduceMod, Nat.reduceBEq, Int.reduceNeg, Int.reduceEq, Int.reduceNe, Int.reduceLT, Int.reduceLE, Int.reduceToNat, Int.reduceAdd, Int.reduceSub, Int.reduceMul, reduceCtorEq, decide_true, decide_false, Nat.zero_add, Nat.add_zero, Nat.zero_mul, Nat.sub_zero, Int.toNat_natCast, true_and, and_true, false_and, and_false, ne_eq, not_false_eq_true, not_true_eq_false, beq_self_eq_true, Bool.false_eq_true, Nat.le_refl, Nat.zero_le]
      refine loop_rule (fun m fr σ => ∃ (k : Nat) (s : List Int × Bool), k ≤ 2 * g.ls.length ∧ m = 2 * g.ls.length - k ∧ fr = [(1, .lst (bools down)), (3, .ptr gid 0 0 0), (9, .sl oid 0 0 g.n.toNat 1), (11, .b s.2), (12, .i k)] ∧
        s = (List.range k).foldl (bfStep g down) (d, false) ∧ s.1.length = g.n.toNat ∧ σ.get oid = some (.row 0 false 1 (ints s.1)) ∧ σ.get gid = some (.row 0 false 2 [[.sc (.int .i64 g.n), .lst (g.ls.map Lk.row)]]) ∧ Small s.1 ∧
        pot s.1 ≤ pot d - (if s.2 then 1 else 0)) _ ⟨0, (d, false), by omega, rfl, rfl, rfl, hlen, o1, g1, hsm, by simp⟩ ?_
      rintro m fr σ3 ⟨k, s, hk, rfl, rfl, hs, hlen3, o3, g3, hsm3, hp3⟩
      have w2 : IntKind.i64.wrap (2 * (g.ls.length : Int)) = 2 * g.ls.length := wrap_id (by omega) (by omega)
      simp only [go_sem, Option.isSome_some, ↓reduceIte, if_true, if_false, Nat.reduceEqDiff, Nat.reduceAdd, Nat.reduceMul, Nat.reduceSub, Nat.reduceLT, Nat.reduceLeDiff, Nat.reduceDiv, Nat.reduceMod, Nat.reduceBEq, Int.reduceNeg, Int.reduceEq, Int.reduceNe, Int.reduceLT, Int.reduceLE, Int.reduceToNat, Int.reduceAdd, Int.reduceSub, Int.reduceMul, reduceCtorEq, decide_true, decide_false, Nat.zero_add, Nat.add_zero, Nat.zero_mul, Nat.sub_zero, Int.toNat_natCast, true_and, and_true, false_and, and_false, ne_eq, not_false_eq_true, not_true_eq_false, beq_self_eq_true, Bool.false_eq_true, Nat.le_refl, Nat.zero_le, rowAt_get g3, w2]
      refine .intro (fun hkl => ?_) (fun hkl => ?_)
      · have hkl' : k < 2 * g.ls.length := by omega
        simp only [go_sem, Option.isSome_some, ↓reduceIte, if_true, if_false, Nat.reduceEqDiff, Nat.reduceAdd, Nat.reduceMul, Nat.reduceSub, Nat.reduceLT, Nat.reduceLeDiff, Nat.reduceDiv, Nat.reduceMod, Nat.reduceBEq, Int.reduceNeg, Int.reduceEq, Int.reduceNe, Int.reduceLT, Int.reduceLE, Int.reduceToNat, Int.reduceAdd, Int.reduceSub, Int.reduceMul, reduceCtorEq, decide_true, decide_false, Nat.zero_add, Nat.add_zero, Nat.zero_mul, Nat.sub_zero, Int.toNat_natCast, true_and, and_true, false_and, and_false, ne_eq, not_false_eq_true, not_true_eq_false, beq_self_eq_true, Bool.false_eq_true, Nat.le_refl, Nat.zero_le, rowAt_get g3]
        refine good_imm (rends_ok g k (by omega)) rfl ?_
        simp only [go_sem, Option.isSome_some, ↓reduceIte, if_true, if_false, Nat.reduceEqDiff, Nat.reduceAdd, Nat.reduceMul, Nat.reduceSub, Nat.reduceLT, Nat.reduceLeDiff, Nat.reduceDiv, Nat.reduceMod, Nat.reduceBEq, Int.reduceNeg, Int.reduceEq, Int.reduceNe, Int.reduceLT, Int.reduceLE, Int.reduceToNat, Int.reduceAdd, Int.reduceSub, Int.reduceMul, reduceCtorEq, decide_true, decide_false, Nat.zero_add, Nat.add_zero, Nat.zero_mul, Nat.sub_zero, Int.toNat_natCast, true_and, and_true, false_and, and_false, ne_eq, not_false_eq_true, not_true_eq_false, beq_self_eq_true, Bool.false_eq_true, Nat.le_refl, Nat.zero_le]
        unfold op16_61
        obtain ⟨v1, v2, v3, v4⟩ := g.ends_of hok (e := k) (by omega) (by omega)
        obtain ⟨v5, v6⟩ := g.metric_of hok (e := k) (by omega) (by omega)
        have hstep : (List.range (k + 1)).foldl (bfStep g down) (d, false) = bfStep g down s k := by rw [List.range_succ, List.foldl_append, ← hs]; rfl
        generalize ha : (g.ends k).1 = a at *
        generalize hb : (g.ends k).2.1 = b at *
        have hai : a.toNat < s.1.length := by omega
        have hbi : b.toNat < s.1.length := by omega
        have x1 : (ints s.1)[a.toNat]? = some [.sc (.int .i64 (s.1.getD a.toNat 0))] := ints_get (by simp [hai])
        have x2 : (ints s.1)[b.toNat]? = some [.sc (.int .i64 (s.1.getD b.toNat 0))] := ints_get (by simp [hbi])
        have ha' : s.1.getD a.toNat 0 ∈ s.1 := by
          have : s.1.getD a.toNat 0 = s.1[a.toNat] := by simp [hai]
          rw [this]; exact List.getElem_mem hai
        have ms := hsm3 _ ha'
        have lneg := neg_le s.1
        have hq : IntKind.i64.wrap ((k : Int).tdiv 2) = (k : Int) / 2 := by
          rw [Int.tdiv_eq_ediv_of_nonneg (by omega)]
          exact wrap_id (by omega) (by omega)
        have hlt : ((k : Int) / 2).toNat < g.ls.length := by omega
        have x4 : (g.ls.map Lk.row)[((k : Int) / 2).toNat]? = some [.sc (.int .i64 (g.ls[((k : Int) / 2).toNat]).a), .sc (.int .i64 (g.ls[((k : Int) / 2).toNat]).b), .sc (.int .i64 (g.metric k)), .sc (.int .i64 (g.ls[((k : Int) / 2).toNat]).c)] := by
          simp [hlt, Lk.row, Gr.metric]
        have n6 : (0 : Int) ≤ (k : Int) / 2 := by omega
        have m1 : a < (g.n.toNat : Int) := by omega
        have m2 : b < (g.n.toNat : Int) := by omega
        have w5 : IntKind.i64.wrap (s.1.getD a.toNat 0 + g.metric k) = s.1.getD a.toNat 0 + g.metric k := wrap_id (by omega) (by omega)
        have w4 : IntKind.i64.wrap ((k : Int) + 1) = ((k + 1 : Nat) : Int) := by rw [wrap_id (by omega) (by omega)]; rfl
        simp only [go_sem, Option.isSome_some, ↓reduceIte, if_true, if_false, Nat.reduceEqDiff, Nat.reduceAdd, Nat.reduceMul, Nat.reduceSub, Nat.reduceLT, Nat.reduceLeDiff, Nat.reduceDiv, Nat.reduceMod, Nat.reduceBEq, Int.reduceNeg, Int.reduceEq, Int.reduceNe, Int.reduceLT, Int.reduceLE, Int.reduceToNat, Int.reduceAdd, Int.reduceSub, Int.reduceMul, reduceCtorEq, decide_true, decide_false, Nat.zero_add, Nat.add_zero, Nat.zero_mul, Nat.sub_zero, Int.toNat_natCast, true_and, and_true, false_and, and_false, ne_eq, not_false_eq_true, not_true_eq_false, beq_self_eq_true, Bool.false_eq_true, Nat.le_refl, Nat.zero_le, v1.1, m1, v2.1, m2, rowAt_get o3, x1, rowAt_get g3, hq, x4, n6, w5]
        have same : ¬ bfCond g down s.1 k → Back (fun m fr σ => ∃ (k : Nat) (s : List Int × Bool), k ≤ 2 * g.ls.length ∧ m = 2 * g.ls.length - k ∧ fr = [(1, .lst (bools down)), (3, .ptr gid 0 0 0), (9, .sl oid 0 0 g.n.toNat 1), (11, .b s.2), (12, .i k)] ∧
            s = (List.range k).foldl (bfStep g down) (d, false) ∧ s.1.length = g.n.toNat ∧ σ.get oid = some (.row 0 false 1 (ints s.1)) ∧ σ.get gid = some (.row 0 false 2 [[.sc (.int .i64 g.n), .lst (g.ls.map Lk.row)]]) ∧ Small s.1 ∧
            pot s.1 ≤ pot d - (if s.2 then 1 else 0)) (2 * g.ls.length - k) [(1, .lst (bools down)), (3, .ptr gid 0 0 0), (9, .sl oid 0 0 g.n.toNat 1), (11, .b s.2), (12, .i ((k + 1 : Nat) : Int))] σ3 := fun hne => by
          refine back_of (2 * g.ls.length - (k + 1)) (by omega) ⟨k + 1, s, by omega, rfl, rfl, ?_, hlen3, o3, g3, hsm3, hp3⟩
          rw [hstep]; unfold bfStep; rw [if_neg hne]
        by_cases q1 : 0 ≤ s.1.getD a.toNat 0
        · simp only [go_sem, Option.isSome_some, ↓reduceIte, if_true, if_false, Nat.reduceEqDiff, Nat.reduceAdd, Nat.reduceMul, Nat.reduceSub, Nat.reduceLT, Nat.reduceLeDiff, Nat.reduceDiv, Nat.reduceMod, Nat.reduceBEq, Int.reduceNeg, Int.reduceEq, Int.reduceNe, Int.reduceLT, Int.reduceLE, Int.reduceToNat, Int.reduceAdd, Int.reduceSub, Int.reduceMul, reduceCtorEq, decide_true, decide_false, Nat.zero_add, Nat.add_zero, Nat.zero_mul, Nat.sub_zero, Int.toNat_natCast, true_and, and_true, false_and, and_false, ne_eq, not_false_eq_true, not_true_eq_false, beq_self_eq_true, Bool.false_eq_true, Nat.le_refl, Nat.zero_le, q1, hq]
          refine good_imm (isdown_ok down ((k : Int) / 2)) rfl ?_
          simp only [go_sem, Option.isSome_some, ↓reduceIte, if_true, if_false, Nat.reduceEqDiff, Nat.reduceAdd, Nat.reduceMul, Nat.reduceSub, Nat.reduceLT, Nat.reduceLeDiff, Nat.reduceDiv, Nat.reduceMod, Nat.reduceBEq, Int.reduceNeg, Int.reduceEq, Int.reduceNe, Int.reduceLT, Int.reduceLE, Int.reduceToNat, Int.reduceAdd, Int.reduceSub, Int.reduceMul, reduceCtorEq, decide_true, decide_false, Nat.zero_add, Nat.add_zero, Nat.zero_mul, Nat.sub_zero, Int.toNat_natCast, true_and, and_true, false_and, and_false, ne_eq, not_false_eq_true, not_true_eq_false, beq_self_eq_true, Bool.false_eq_true, Nat.le_refl, Nat.zero_le]
          cases q2 : isDown down ((k : Int) / 2) with
          | true =>
            simp only [go_sem, Option.isSome_some, ↓reduceIte, if_true, if_false, Nat.reduceEqDiff, Nat.reduceAdd, Nat.reduceMul, Nat.reduceSub, Nat.reduceLT, Nat.reduceLeDiff, Nat.reduceDiv, Nat.reduceMod, Nat.reduceBEq, Int.reduceNeg, Int.reduceEq, Int.reduceNe, Int.reduceLT, Int.reduceLE, Int.reduceToNat, Int.reduceAdd, Int.reduceSub, Int.reduceMul, reduceCtorEq, decide_true, decide_false, Nat.zero_add, Nat.add_zero, Nat.zero_mul, Nat.sub_zero, Int.toNat_natCast, true_and, and_true, false_and, and_false, ne_eq, not_false_eq_true, not_true_eq_false, beq_self_eq_true, Bool.false_eq_true, Nat.le_refl, Nat.zero_le, w4]
            exact same (fun h => by have := h.2.1; rw [q2] at this; cases this)
          | false =>
            simp only [go_sem, Option.isSome_some, ↓reduceIte, if_true, if_false, Nat.reduceEqDiff, Nat.reduceAdd, Nat.reduceMul, Nat.reduceSub, Nat.reduceLT, Nat.reduceLeDiff, Nat.reduceDiv, Nat.reduceMod, Nat.reduceBEq, Int.reduceNeg, Int.reduceEq, Int.reduceNe, Int.reduceLT, Int.reduceLE, Int.reduceToNat, Int.reduceAdd, Int.reduceSub, Int.reduceMul, reduceCtorEq, decide_true, decide_false, Nat.zero_add, Nat.add_zero, Nat.zero_mul, Nat.sub_zero, Int.toNat_natCast, true_and, and_true, false_and, and_false, ne_eq, not_false_eq_true, not_true_eq_false, beq_self_eq_true, Bool.false_eq_true, Nat.le_refl, Nat.zero_le, v2.1, m2, rowAt_get o3, x2]
            have change : (s.1.getD b.toNat 0 < 0 ∨ s.1.getD a.toNat 0 + g.metric k < s.1.getD b.toNat 0) → Back (fun m fr σ => ∃ (k : Nat) (s : List Int × Bool), k ≤ 2 * g.ls.length ∧ m = 2 * g.ls.length - k ∧ fr = [(1, .lst (bools down)), (3, .ptr gid 0 0 0), (9, .sl oid 0 0 g.n.toNat 1), (11, .b s.2), (12, .i k)] ∧
                s = (List.range k).foldl (bfStep g down) (d, false) ∧ s.1.length = g.n.toNat ∧ σ.get oid = some (.row 0 false 1 (ints s.1)) ∧ σ.get gid = some (.row 0 false 2 [[.sc (.int .i64 g.n), .lst (g.ls.map Lk.row)]]) ∧ Small s.1 ∧
                pot s.1 ≤ pot d - (if s.2 then 1 else 0)) (2 * g.ls.length - k) [(1, .lst (bools down)), (3, .ptr gid 0 0 0), (9, .sl oid 0 0 g.n.toNat 1), (11, .b true), (12, .i ((k + 1 : Nat) : Int))] (σ3.set oid (.row 0 false 1 ((ints s.1).set b.toNat [.sc (.int .i64 (s.1.getD a.toNat 0 + g.metric k))]))) := fun hq3 => by
              have hbg : s.1.getD b.toNat 0 = s.1[b.toNat] := by simp [hbi]
              have hcond : bfCond g down s.1 k := by unfold bfCond; rw [ha, hb]; exact ⟨q1, q2, hq3⟩
              have hnew : bfStep g down s k = (s.1.set b.toNat (s.1.getD a.toNat 0 + g.metric k), true) := by unfold bfStep; rw [if_pos hcond, ha, hb]
              refine back_of (2 * g.ls.length - (k + 1)) (by omega) ⟨k + 1, (s.1.set b.toNat (s.1.getD a.toNat 0 + g.metric k), true), by omega, rfl, rfl, ?_, by simpa using hlen3, ?_, ?_, ?_, ?_⟩
              · rw [hstep, hnew]
              · rw [Store.get_set_self, ints_set]
              · rw [Store.get_set_ne _ _ hne1, g3]
              · exact hsm3.step hbi ha' q1 v5 v6 (by rw [← hbg]; exact hq3)
              · have hp4 := pot_set (x := s.1.getD a.toNat 0 + g.metric k) hbi
                rw [← hbg] at hp4
                have hn : ¬ (s.1.getD a.toNat 0 + g.metric k < 0) := by omega
                simp only [hn, if_false] at hp4
                simp only [if_true]
                have hbig : s.1.getD a.toNat 0 + g.metric k < big := by unfold big; omega
                rw [hp4]
                split <;> split at hp3 <;> omega
            by_cases q3 : s.1.getD b.toNat 0 < 0
            · simp only [go_sem, Option.isSome_some, ↓reduceIte, if_true, if_false, Nat.reduceEqDiff, Nat.reduceAdd, Nat.reduceMul, Nat.reduceSub, Nat.reduceLT, Nat.reduceLeDiff, Nat.reduceDiv, Nat.reduceMod, Nat.reduceBEq, Int.reduceNeg, Int.reduceEq, Int.reduceNe, Int.reduceLT, Int.reduceLE, Int.reduceToNat, Int.reduceAdd, Int.reduceSub, Int.reduceMul, reduceCtorEq, decide_true, decide_false, Nat.zero_add, Nat.add_zero, Nat.zero_mul, Nat.sub_zero, Int.toNat_natCast, true_and, and_true, false_and, and_false, ne_eq, not_false_eq_true, not_true_eq_false, beq_self_eq_true, Bool.false_eq_true, Nat.le_refl, Nat.zero_le, q3, v2.1, m2, rowAt_get o3, x2, w4]
              exact change (.inl q3)
            · simp only [go_sem, Option.isSome_some, ↓reduceIte, if_true, if_false, Nat.reduceEqDiff, Nat.reduceAdd, Nat.reduceMul, Nat.reduceSub, Nat.reduceLT, Nat.reduceLeDiff, Nat.reduceDiv, Nat.reduceMod, Nat.reduceBEq, Int.reduceNeg, Int.reduceEq, Int.reduceNe, Int.reduceLT, Int.reduceLE, Int.reduceToNat, Int.reduceAdd, Int.reduceSub, Int.reduceMul, reduceCtorEq, decide_true, decide_false, Nat.zero_add, Nat.add_zero, Nat.zero_mul, Nat.sub_zero, Int.toNat_natCast, true_and, and_true, false_and, and_false, ne_eq, not_false_eq_true, not_true_eq_false, beq_self_eq_true, Bool.false_eq_true, Nat.le_refl, Nat.zero_le, q3, v2.1, m2, rowAt_get o3, x2]
              by_cases q4 : s.1.getD a.toNat 0 + g.metric k < s.1.getD b.toNat 0
              · simp only [go_sem, Option.isSome_some, ↓reduceIte, if_true, if_false, Nat.reduceEqDiff, Nat.reduceAdd, Nat.reduceMul, Nat.reduceSub, Nat.reduceLT, Nat.reduceLeDiff, Nat.reduceDiv, Nat.reduceMod, Nat.reduceBEq, Int.reduceNeg, Int.reduceEq, Int.reduceNe, Int.reduceLT, Int.reduceLE, Int.reduceToNat, Int.reduceAdd, Int.reduceSub, Int.reduceMul, reduceCtorEq, decide_true, decide_false, Nat.zero_add, Nat.add_zero, Nat.zero_mul, Nat.sub_zero, Int.toNat_natCast, true_and, and_true, false_and, and_false, ne_eq, not_false_eq_true, not_true_eq_false, beq_self_eq_true, Bool.false_eq_true, Nat.le_refl, Nat.zero_le, q4, v2.1, m2, rowAt_get o3, x2, w4]
                exact change (.inr q4)
              · simp only [go_sem, Option.isSome_some, ↓reduceIte, if_true, if_false, Nat.reduceEqDiff, Nat.reduceAdd, Nat.reduceMul, Nat.reduceSub, Nat.reduceLT, Nat.reduceLeDiff, Nat.reduceDiv, Nat.reduceMod, Nat.reduceBEq, Int.reduceNeg, Int.reduceEq, Int.reduceNe, Int.reduceLT, Int.reduceLE, Int.reduceToNat, Int.reduceAdd, Int.reduceSub, Int.reduceMul, reduceCtorEq, decide_true, decide_false, Nat.zero_add, Nat.add_zero, Nat.zero_mul, Nat.sub_zero, Int.toNat_natCast, true_and, and_true, false_and, and_false, ne_eq, not_false_eq_true, not_true_eq_false, beq_self_eq_true, Bool.false_eq_true, Nat.le_refl, Nat.zero_le, q4, w4]
                exact same (fun h => by have := h.2.2; rw [ha, hb] at this; omega)
        · simp only [go_sem, Option.isSome_some, ↓reduceIte, if_true, if_false, Nat.reduceEqDiff, Nat.reduceAdd, Nat.reduceMul, Nat.reduceSub, Nat.reduceLT, Nat.reduceLeDiff, Nat.reduceDiv, Nat.reduceMod, Nat.reduceBEq, Int.reduceNeg, Int.reduceEq, Int.reduceNe, Int.reduceLT, Int.reduceLE, Int.reduceToNat, Int.reduceAdd, Int.reduceSub, Int.reduceMul, reduceCtorEq, decide_true, decide_false, Nat.zero_add, Nat.add_zero, Nat.zero_mul, Nat.sub_zero, Int.toNat_natCast, true_and, and_true, false_and, and_false, ne_eq, not_false_eq_true, not_true_eq_false, beq_self_eq_true, Bool.false_eq_true, Nat.le_refl, Nat.zero_le, q1, w4]
          exact same (fun h => by have := h.1; rw [ha] at this; exact q1 this)
      · simp only [go_sem, Option.isSome_some, ↓reduceIte, if_true, if_false, Nat.reduceEqDiff, Nat.reduceAdd, Nat.reduceMul, Nat.reduceSub, Nat.reduceLT, Nat.reduceLeDiff, Nat.reduceDiv, Nat.reduceMod, Nat.reduceBEq, Int.reduceNeg, Int.reduceEq, Int.reduceNe, Int.reduceLT, Int.reduceLE, Int.reduceToNat, Int.reduceAdd, Int.reduceSub, Int.reduceMul, reduceCtorEq, decide_true, decide_false, Nat.zero_add, Nat.add_zero, Nat.zero_mul, Nat.sub_zero, Int.toNat_natCast, true_and, and_true, false_and, and_false, ne_eq, not_false_eq_true, not_true_eq_false, beq_self_eq_true, Bool.false_eq_true, Nat.le_refl, Nat.zero_le]
        have e : k = 2 * g.ls.length := by omega
        subst e
        have hs' : s = bfSweep g down d := hs
        unfold bf at hbf
        rw [← hs'] at hbf
        refine back_le _ ?_ [(1, .lst (bools down)), (3, .ptr gid 0 0 0), (9, .sl oid 0 0 g.n.toNat 1), (11, .b s.2)] (by simp [Fr.get]) ⟨f', s.1, s.2, rfl, rfl, hlen3, o3, g3, hsm3, ?_⟩
        · have p1 := pot_nonneg s.1
          cases hm : s.2 <;> simp [hm] at hp3 ⊢
          omega
        · have p1 := pot_nonneg s.1
          cases hm : s.2 <;> simp [hm] at hp3 hbf ⊢
          · exact hbf
          · exact ⟨by omega, hbf⟩
end Go.Proofs

set_option linter.unusedVariables false
namespace Go.Proofs
/-! ### The heap's order -/
def HOrd (l : List (Int × Int)) : Prop := ∀ i, 0 < i → i < l.length → ¬ lt2 (hg l i) (hg l ((i - 1) / 2))
def UpInv (l : List (Int × Int)) (i : Nat) : Prop :=
  (∀ j, 0 < j → j < l.length → j ≠ i → ¬ lt2 (hg l j) (hg l ((j - 1) / 2))) ∧ (∀ c, 0 < c → c < l.length → (c - 1) / 2 = i → 0 < i → ¬ lt2 (hg l c) (hg l ((i - 1) / 2)))
def DownInv (l : List (Int × Int)) (i : Nat) : Prop :=
  (∀ j, 0 < j → j < l.length → (j - 1) / 2 ≠ i → ¬ lt2 (hg l j) (hg l ((j - 1) / 2))) ∧ (∀ c, 0 < c → c < l.length → (c - 1) / 2 = i → 0 < i → ¬ lt2 (hg l c) (hg l ((i - 1) / 2)))
theorem lt2_trans {p q r : Int × Int} (h : lt2 p q) (h' : lt2 q r) : lt2 p r := by
  rcases h with h | ⟨h1, h2⟩ <;> rcases h' with h3 | ⟨h3, h4⟩
  · exact .inl (by omega)
  · exact .inl (by omega)
  · exact .inl (by omega)
  · exact .inr ⟨by omega, by omega⟩
theorem lt2_asymm {p q : Int × Int} (h : lt2 p q) : ¬ lt2 q p := by
  rintro (h3 | ⟨h3, h4⟩) <;> rcases h with h | ⟨h1, h2⟩ <;> omega
theorem lt2_irrefl (p : Int × Int) : ¬ lt2 p p := fun h => lt2_asymm h h
theorem hg_swap {l : List (Int × Int)} {i j : Nat} (hi : i < l.length) (hj : j < l.length) (k : Nat) : hg (hswap l i j) k = if k = j then hg l i else if k = i then hg l j else hg l k := by
  unfold hswap hg
  simp only [List.getD_eq_getElem?_getD, List.getElem?_set, List.length_set]
  by_cases h1 : k = j
  · subst h1; simp [hj]
  · by_cases h2 : k = i
    · subst h2
      have : ¬ j = k := fun e => h1 e.symm
      simp [this, h1, hi]
    · have h3 : ¬ j = k := fun e => h1 e.symm
      have h4 : ¬ i = k := fun e => h2 e.symm
      simp [h1, h2, h3, h4]
theorem siftUp_ord : ∀ (f : Nat) (l : List (Int × Int)) (i : Nat), i < f → i < l.length → UpInv l i → HOrd (siftUp f l i)
  | 0, l, i, h, _, _ => by omega
  | f + 1, l, i, h, hi, hu => by
    unfold siftUp
    by_cases h0 : i = 0
    · rw [if_pos h0]
      subst h0
      exact fun j h1 h2 => hu.1 j h1 h2 (by omega)
    · rw [if_neg h0]
      by_cases h1 : lt2 (hg l i) (hg l ((i - 1) / 2))
      · rw [if_pos h1]
        have hp : (i - 1) / 2 < l.length := by omega
        refine siftUp_ord f _ _ (by omega) (by rw [hswap_len]; omega) ⟨fun j j1 j2 j3 => ?_, fun c c1 c2 c3 c4 => ?_⟩
        · rw [hswap_len] at j2
          rw [hg_swap hi hp, hg_swap hi hp, if_neg j3]
          by_cases e1 : j = i
          · subst e1
            rw [if_pos rfl, if_pos rfl]
            unfold lt2 at *; omega
          · rw [if_neg e1]
            have a1 := hu.1 j j1 j2 e1
            by_cases e2 : (j - 1) / 2 = (i - 1) / 2
            · rw [if_pos e2]
              rw [e2] at a1
              unfold lt2 at *; omega
            · rw [if_neg e2]
              by_cases e3 : (j - 1) / 2 = i
              · rw [if_pos e3]
                exact hu.2 j j1 j2 e3 (by omega)
              · rw [if_neg e3]
                exact a1
        · rw [hswap_len] at c2
          rw [hg_swap hi hp, hg_swap hi hp, if_neg (by omega : ¬ c = (i - 1) / 2), if_neg (by omega : ¬ ((i - 1) / 2 - 1) / 2 = (i - 1) / 2), if_neg (by omega : ¬ ((i - 1) / 2 - 1) / 2 = i)]
          have a1 := hu.1 ((i - 1) / 2) c4 hp (by omega)
          by_cases e1 : c = i
          · rw [if_pos e1]
            exact a1
          · rw [if_neg e1]
            have a2 := hu.1 c c1 c2 e1
            rw [c3] at a2
            unfold lt2 at *; omega
      · rw [if_neg h1]
        intro j j1 j2
        by_cases e : j = i
        · subst e; exact h1
        · exact hu.1 j j1 j2 e
theorem hg_app {l : List (Int × Int)} {p : Int × Int} {i : Nat} : hg (l ++ [p]) i = if i < l.length then hg l i else if i = l.length then p else (0, 0) := by
  unfold hg
  simp only [List.getD_eq_getElem?_getD, List.getElem?_append]
  by_cases h : i < l.length
  · simp [h]
  · by_cases h2 : i = l.length
    · subst h2; simp
    · simp [h, h2]
      rw [List.getElem?_eq_none (by simp; omega)]
      rfl
theorem hpush_ord {l : List (Int × Int)} (h : HOrd l) (k v : Int) : HOrd (hpush l k v) := by
  refine siftUp_ord _ _ _ (by omega) (by simp) ⟨fun j j1 j2 j3 => ?_, fun c c1 c2 c3 c4 => ?_⟩
  · simp at j2
    rw [hg_app, hg_app, if_pos (by omega), if_pos (by omega)]
    exact h j j1 (by omega)
  · simp at c2; omega
theorem leastOf_spec (l : List (Int × Int)) (i : Nat) : (leastOf l i = i ∨ leastOf l i = 2 * i + 1 ∨ leastOf l i = 2 * i + 2) ∧ (leastOf l i ≠ i → lt2 (hg l (leastOf l i)) (hg l i)) ∧
    (∀ c, (c = 2 * i + 1 ∨ c = 2 * i + 2) → c < l.length → ¬ lt2 (hg l c) (hg l (leastOf l i))) := by
  unfold leastOf better
  by_cases h1 : 2 * i + 1 < l.length ∧ lt2 (l.getD (2 * i + 1) (0, 0)) (l.getD i (0, 0))
  · simp only [if_pos h1]
    by_cases h2 : 2 * i + 2 < l.length ∧ lt2 (l.getD (2 * i + 2) (0, 0)) (l.getD (2 * i + 1) (0, 0))
    · simp only [if_pos h2]
      refine ⟨by first | omega | simp, fun _ => ?_, fun c hc hl => ?_⟩
      · exact lt2_trans h2.2 h1.2
      · have b := h2.2
        rcases hc with rfl | rfl
        · exact lt2_asymm b
        · exact lt2_irrefl _
    · simp only [if_neg h2]
      refine ⟨by first | omega | simp, fun _ => h1.2, fun c hc hl => ?_⟩
      rcases hc with rfl | rfl
      · exact lt2_irrefl _
      · exact fun h => h2 ⟨hl, h⟩
  · simp only [if_neg h1]
    by_cases h2 : 2 * i + 2 < l.length ∧ lt2 (l.getD (2 * i + 2) (0, 0)) (l.getD i (0, 0))
    · simp only [if_pos h2]
      refine ⟨by first | omega | simp, fun _ => h2.2, fun c hc hl => ?_⟩
      have b := h2.2
      rcases hc with rfl | rfl
      · have a : ¬ lt2 (l.getD (2 * i + 1) (0, 0)) (l.getD i (0, 0)) := fun h => h1 ⟨hl, h⟩
        exact fun h => a (lt2_trans h b)
      · exact lt2_irrefl _
    · simp only [if_neg h2]
      refine ⟨.inl trivial, fun h => absurd rfl h, fun c hc hl => ?_⟩
      rcases hc with rfl | rfl
      · exact fun h => h1 ⟨hl, h⟩
      · exact fun h => h2 ⟨hl, h⟩
theorem siftDown_ord : ∀ (f : Nat) (l : List (Int × Int)) (i : Nat), l.length < f + i → DownInv l i → HOrd (siftDown f l i)
  | 0, l, i, h, hd => fun j j1 j2 => hd.1 j j1 j2 (by have j2' : j < l.length := j2; omega)
  | f + 1, l, i, h, hd => by
    obtain ⟨s1, s2, s3⟩ := leastOf_spec l i
    obtain ⟨q1, q2⟩ := leastOf_le l i
    unfold siftDown
    by_cases h0 : leastOf l i = i
    · rw [if_pos h0]
      intro j j1 j2
      by_cases e : (j - 1) / 2 = i
      · have := s3 j (by omega) j2
        rw [h0] at this
        rw [e]; exact this
      · exact hd.1 j j1 j2 e
    · rw [if_neg h0]
      have hk := q2 h0
      have hlt := s2 h0
      generalize leastOf l i = k at *
      have hi : i < l.length := by omega
      have hpk : (k - 1) / 2 = i := by omega
      refine siftDown_ord f _ _ (by rw [hswap_len]; omega) ⟨fun j j1 j2 j3 => ?_, fun c c1 c2 c3 c4 => ?_⟩
      · rw [hswap_len] at j2
        rw [hg_swap hi hk, hg_swap hi hk, if_neg j3]
        by_cases e1 : j = k
        · subst e1
          rw [if_pos rfl, hpk, if_pos rfl]
          unfold lt2 at *; omega
        · rw [if_neg e1]
          by_cases e2 : j = i
          · subst e2
            rw [if_pos rfl, if_neg (by omega : ¬ (j - 1) / 2 = j)]
            exact hd.2 k (by omega) hk hpk j1
          · rw [if_neg e2]
            by_cases e3 : (j - 1) / 2 = i
            · rw [if_pos e3]
              exact s3 j (by omega) j2
            · rw [if_neg e3]
              exact hd.1 j j1 j2 e3
      · rw [hswap_len] at c2
        rw [hg_swap hi hk, hg_swap hi hk, if_neg (by omega : ¬ c = k), if_neg (by omega : ¬ c = i), if_neg (by omega : ¬ (k - 1) / 2 = k), hpk, if_pos rfl]
        have := hd.1 c c1 c2 (by omega)
        rw [c3] at this
        exact this
theorem popped_ord {l : List (Int × Int)} (h : HOrd l) : HOrd (popped l) := by
  by_cases hl : l = []
  · subst hl; intro i h1 h2; simp [popped, siftDown] at h2
  have hpos : 0 < l.length := List.length_pos_iff.2 hl
  have hlen : ((l.set 0 (hg l (l.length - 1))).take (l.length - 1)).length = l.length - 1 := by simp
  have hget : ∀ i, 0 < i → i < l.length - 1 → hg ((l.set 0 (hg l (l.length - 1))).take (l.length - 1)) i = hg l i := fun i h1 h2 => by
    unfold hg
    simp only [List.getD_eq_getElem?_getD, List.getElem?_take, if_pos h2, List.getElem?_set]
    rw [if_neg (by omega)]
  unfold popped
  refine siftDown_ord _ _ _ (by rw [hlen]; omega) ⟨fun j j1 j2 j3 => ?_, fun c c1 c2 c3 c4 => by omega⟩
  rw [hlen] at j2
  rw [hget j j1 j2, hget _ (by omega) (by omega)]
  exact h j j1 (by omega)
theorem root_min {l : List (Int × Int)} (h : HOrd l) : ∀ (i : Nat), i < l.length → ¬ lt2 (hg l i) (hg l 0) := by
  intro i
  induction i using Nat.strongRecOn with
  | _ i ih =>
    intro hi
    by_cases h0 : i = 0
    · subst h0; exact lt2_irrefl _
    · have a := h i (by omega) hi
      have b := ih ((i - 1) / 2) (by omega) (by omega)
      unfold lt2 at *; omega
theorem root_le {l : List (Int × Int)} (h : HOrd l) {p : Int × Int} (hp : p ∈ l) : (hg l 0).1 ≤ p.1 := by
  obtain ⟨i, hi, rfl⟩ := List.getElem_of_mem hp
  have := root_min h i hi
  rw [hg_eq hi] at this
  unfold lt2 at this; omega
end Go.Proofs

set_option linter.unusedVariables false
namespace Go.Proofs
/-! ### Distances -/
def Use (g : Gr) (down : List Bool) (k : Int) : Prop := 0 ≤ k ∧ k < 2 * (g.ls.length : Int) ∧ isUp down k = true
abbrev at0 (d : List Int) (v : Int) : Int := d.getD v.toNat 0
structure IsDist (g : Gr) (down : List Bool) (node : Int) (d : List Int) : Prop where
  len : d.length = g.n.toNat
  src : at0 d node = 0
  neg : ∀ v, 0 ≤ v → v < g.n → at0 d v = -1 ∨ 0 ≤ at0 d v
  closed : ∀ k, Use g down k → 0 ≤ at0 d (g.ends k).1 → 0 ≤ at0 d (g.ends k).2.1 ∧ at0 d (g.ends k).2.1 ≤ at0 d (g.ends k).1 + g.metric k
  reach : ∀ v, 0 ≤ v → v < g.n → 0 ≤ at0 d v → (v = node ∧ at0 d v = 0) ∨ ∃ k, Use g down k ∧ (g.ends k).2.1 = v ∧ 0 ≤ at0 d (g.ends k).1 ∧ at0 d v = at0 d (g.ends k).1 + g.metric k

theorem dist_le {g : Gr} (hg : g.Ok) {down : List Bool} {node : Int} {d d' : List Int} (h : IsDist g down node d) (h' : IsDist g down node d') :
    ∀ (N : Nat) (v : Int), 0 ≤ v → v < g.n → 0 ≤ at0 d' v → at0 d' v ≤ N → 0 ≤ at0 d v ∧ at0 d v ≤ at0 d' v := by
  intro N
  induction N using Nat.strongRecOn with
  | _ N ih =>
    intro v v0 v1 h0 hN
    rcases h'.reach v v0 v1 h0 with ⟨rfl, h2⟩ | ⟨k, hk, hb, ha, hd⟩
    · rw [h.src, h2]; exact ⟨Int.le_refl _, Int.le_refl _⟩
    · obtain ⟨e1, e2, e3, e4⟩ := g.ends_of hg hk.1 hk.2.1
      obtain ⟨m1, m2⟩ := g.metric_of hg hk.1 hk.2.1
      have := ih (at0 d' (g.ends k).1).toNat (by omega) (g.ends k).1 e1.1 e1.2 ha (by omega)
      have c := h.closed k hk this.1
      rw [hb] at c
      omega
theorem dist_uniq {g : Gr} (hg : g.Ok) {down : List Bool} {node : Int} {d d' : List Int} (h : IsDist g down node d) (h' : IsDist g down node d') : d = d' := by
  refine List.ext_getElem (h.len.trans h'.len.symm) fun i h1 h2 => ?_
  have hi : (i : Int) < g.n := by have := h.len; omega
  have e1 : at0 d i = d[i] := by simp [h1]
  have e2 : at0 d' i = d'[i] := by simp [h2]
  rw [← e1, ← e2]
  have a1 := h.neg i (by omega) hi
  have a2 := h'.neg i (by omega) hi
  by_cases p1 : 0 ≤ at0 d i
  · have b1 := dist_le hg h' h (at0 d i).toNat i (by omega) hi p1 (by omega)
    have b2 := dist_le hg h h' (at0 d' i).toNat i (by omega) hi b1.1 (by omega)
    omega
  · by_cases p2 : 0 ≤ at0 d' i
    · have b2 := dist_le hg h h' (at0 d' i).toNat i (by omega) hi p2 (by omega)
      omega
    · omega

theorem up_down (down : List Bool) (k : Int) (h : 0 ≤ k) : isUp down k = !isDown down (k / 2) := by
  unfold isUp isDown
  by_cases h1 : (down.length : Int) ≤ k / 2
  · have h2 : ¬ (k / 2 < down.length) := by omega
    simp [h1, h2]
  · have h2 : k / 2 < down.length := by omega
    have h3 : (0 : Int) ≤ k / 2 := by omega
    simp [h1, h2, h3]

/-! ### The reference's way -/
structure BfInv (g : Gr) (down : List Bool) (node : Int) (d : List Int) : Prop where
  len : d.length = g.n.toNat
  src : at0 d node = 0
  neg : ∀ v, 0 ≤ v → v < g.n → at0 d v = -1 ∨ 0 ≤ at0 d v
  small : Small d
  reach : ∀ v, 0 ≤ v → v < g.n → 0 ≤ at0 d v → (v = node ∧ at0 d v = 0) ∨ ∃ k, Use g down k ∧ (g.ends k).2.1 = v ∧ 0 ≤ at0 d (g.ends k).1 ∧ at0 d (g.ends k).1 + g.metric k ≤ at0 d v
theorem at0_set {d : List Int} {u v x : Int} (hu : 0 ≤ u) (hul : u.toNat < d.length) (hv : 0 ≤ v) : at0 (d.set u.toNat x) v = if v = u then x else at0 d v := by
  unfold at0
  simp only [List.getD_eq_getElem?_getD, List.getElem?_set]
  by_cases h : v = u
  · subst h; simp [hul]
  · have : ¬ u.toNat = v.toNat := by omega
    simp [h, this]
theorem bf_step {g : Gr} (hg : g.Ok) {down : List Bool} {node : Int} (hn : 0 ≤ node ∧ node < g.n) {d : List Int} (h : BfInv g down node d) {k : Nat} (hk : k < 2 * g.ls.length) (hc : bfCond g down d k) :
    BfInv g down node (d.set (g.ends k).2.1.toNat (at0 d (g.ends k).1 + g.metric k)) ∧ pot (d.set (g.ends k).2.1.toNat (at0 d (g.ends k).1 + g.metric k)) < pot d := by
  obtain ⟨e1, e2, e3, e4⟩ := g.ends_of hg (e := k) (by omega) (by omega)
  obtain ⟨m1, m2⟩ := g.metric_of hg (e := k) (by omega) (by omega)
  obtain ⟨c1, c2, c3⟩ := hc
  have hlen := h.len
  have hbl : (g.ends k).2.1.toNat < d.length := by omega
  have hal : (g.ends k).1.toNat < d.length := by omega
  have hma : at0 d (g.ends k).1 ∈ d := by
    have : at0 d (g.ends k).1 = d[(g.ends k).1.toNat] := by simp [hal]
    rw [this]; exact List.getElem_mem hal
  have hbe : at0 d (g.ends k).2.1 = d[(g.ends k).2.1.toNat] := by simp [hbl]
  have hsm := h.small _ hma
  have hneg := neg_le d
  have huse : Use g down k := ⟨by omega, by omega, by rw [up_down _ _ (by omega), c2]; rfl⟩
  generalize ha : (g.ends k).1 = a at *
  generalize hb : (g.ends k).2.1 = b at *
  have c1' : 0 ≤ at0 d a := c1
  have c3' : at0 d b < 0 ∨ at0 d a + g.metric k < at0 d b := c3
  have fall : ∀ v, 0 ≤ v → 0 ≤ at0 d v → 0 ≤ at0 (d.set b.toNat (at0 d a + g.metric k)) v ∧ at0 (d.set b.toNat (at0 d a + g.metric k)) v ≤ at0 d v := fun v v0 hv => by
    rw [at0_set e2.1 hbl v0]
    split
    · rename_i e; subst e; omega
    · exact ⟨hv, Int.le_refl _⟩
  refine ⟨⟨by simpa using h.len, ?_, fun v v0 v1 => ?_, ?_, fun v v0 v1 hv => ?_⟩, ?_⟩
  · rw [at0_set e2.1 hbl hn.1]
    split
    · rename_i e; subst e
      have := h.src; omega
    · exact h.src
  · rw [at0_set e2.1 hbl v0]
    split
    · exact .inr (by omega)
    · exact h.neg v v0 v1
  · exact h.small.step hbl hma c1' m1 m2 (by rw [← hbe]; exact c3')
  · by_cases hvb : v = b
    · refine .inr ⟨k, huse, hb.trans hvb.symm, ?_, ?_⟩
      · rw [ha]; exact (fall a e1.1 c1').1
      · rw [ha, at0_set e2.1 hbl v0, if_pos hvb, at0_set e2.1 hbl e1.1, if_neg (fun e => e4 e)]
        exact Int.le_refl _
    · have e5 : at0 (d.set b.toNat (at0 d a + g.metric k)) v = at0 d v := by rw [at0_set e2.1 hbl v0, if_neg hvb]
      rw [e5] at hv ⊢
      rcases h.reach v v0 v1 hv with h1 | ⟨j, j1, j2, j3, j4⟩
      · exact .inl h1
      · obtain ⟨f1, _⟩ := g.ends_of hg j1.1 j1.2.1
        have := fall _ f1.1 j3
        exact .inr ⟨j, j1, j2, this.1, by omega⟩
  · rw [pot_set hbl, ← hbe]
    have : ¬ (at0 d a + g.metric k < 0) := by omega
    rw [if_neg this]
    have hbig : at0 d a + g.metric k < big := by unfold big; have := hg.2.2.1; omega
    split <;> omega
theorem bf_sweep {g : Gr} (hg : g.Ok) {down : List Bool} {node : Int} (hn : 0 ≤ node ∧ node < g.n) {d : List Int} (h : BfInv g down node d) : ∀ (k : Nat), k ≤ 2 * g.ls.length →
    BfInv g down node ((List.range k).foldl (bfStep g down) (d, false)).1 ∧
    (((List.range k).foldl (bfStep g down) (d, false)).2 = true → pot ((List.range k).foldl (bfStep g down) (d, false)).1 < pot d) ∧
    (((List.range k).foldl (bfStep g down) (d, false)).2 = false → ((List.range k).foldl (bfStep g down) (d, false)).1 = d ∧ ∀ j, j < k → ¬ bfCond g down d j)
  | 0, _ => ⟨h, (fun e => by cases e), fun _ => ⟨rfl, fun j hj => by omega⟩⟩
  | k + 1, hk => by
    obtain ⟨i1, i2, i3⟩ := bf_sweep hg hn h k (by omega)
    have e : (List.range (k + 1)).foldl (bfStep g down) (d, false) = bfStep g down ((List.range k).foldl (bfStep g down) (d, false)) k := by rw [List.range_succ, List.foldl_append]; rfl
    rw [e]
    generalize (List.range k).foldl (bfStep g down) (d, false) = s at *
    unfold bfStep
    by_cases hc : bfCond g down s.1 k
    · rw [if_pos hc]
      obtain ⟨j1, j2⟩ := bf_step hg hn i1 (by omega) hc
      refine ⟨j1, fun _ => ?_, (fun h => by cases h)⟩
      show pot (s.1.set (g.ends k).2.1.toNat (at0 s.1 (g.ends k).1 + g.metric k)) < pot d
      cases hs : s.2 with
      | true => have := i2 hs; omega
      | false => rw [(i3 hs).1] at j2 ⊢; exact j2
    · rw [if_neg hc]
      refine ⟨i1, i2, fun hs => ⟨(i3 hs).1, fun j hj => ?_⟩⟩
      by_cases hjk : j = k
      · subst hjk; rw [← (i3 hs).1]; exact hc
      · exact (i3 hs).2 j (by omega)
theorem bf_dist {g : Gr} (hg : g.Ok) {down : List Bool} {node : Int} (hn : 0 ≤ node ∧ node < g.n) : ∀ (f : Nat) (d : List Int), (pot d).toNat < f → BfInv g down node d → IsDist g down node (bf g down f d) ∧ Small (bf g down f d)
  | 0, d, h, _ => by omega
  | f + 1, d, h, hd => by
    obtain ⟨i1, i2, i3⟩ := bf_sweep hg hn hd (2 * g.ls.length) (Nat.le_refl _)
    unfold bf
    cases hs : (bfSweep g down d).2 with
    | true =>
      rw [if_pos rfl]
      have p1 := pot_nonneg (bfSweep g down d).1
      have p2 := i2 hs
      refine bf_dist hg hn f _ ?_ i1
      unfold bfSweep at p1 ⊢
      omega
    | false =>
      simp only [Bool.false_eq_true, if_false]
      obtain ⟨e, hc⟩ := i3 hs
      have e' : (bfSweep g down d).1 = d := e
      rw [e']
      have closed : ∀ k, Use g down k → 0 ≤ at0 d (g.ends k).1 → 0 ≤ at0 d (g.ends k).2.1 ∧ at0 d (g.ends k).2.1 ≤ at0 d (g.ends k).1 + g.metric k := fun k hk h0 => by
        have := hc k.toNat (by have := hk.1; have := hk.2.1; omega)
        have ek : ((k.toNat : Nat) : Int) = k := Int.toNat_of_nonneg hk.1
        unfold bfCond at this
        rw [ek] at this
        have hdn : isDown down (k / 2) = false := by
          have := hk.2.2
          rw [up_down _ _ hk.1] at this
          simpa using this
        have h1 : ¬ (at0 d (g.ends k).2.1 < 0 ∨ at0 d (g.ends k).1 + g.metric k < at0 d (g.ends k).2.1) := fun hx => this ⟨h0, hdn, hx⟩
        omega
      refine ⟨⟨hd.len, hd.src, hd.neg, closed, fun v v0 v1 hv => ?_⟩, hd.small⟩
      rcases hd.reach v v0 v1 hv with h1 | ⟨k, k1, k2, k3, k4⟩
      · exact .inl h1
      · have := closed k k1 k3
        rw [k2] at this
        exact .inr ⟨k, k1, k2, k3, by omega⟩
theorem refFrom_spec {g : Gr} (hg : g.Ok) {down : List Bool} {node : Int} (hn : 0 ≤ node ∧ node < g.n) : IsDist g down node (refFrom g down node) ∧ Small (refFrom g down node) := by
  unfold refFrom
  rw [if_pos ⟨g.check_ok.2 hg, hn⟩]
  have hl : node.toNat < (List.replicate g.n.toNat (-1 : Int)).length := by simp; omega
  have get : ∀ v, 0 ≤ v → v < g.n → at0 ((List.replicate g.n.toNat (-1)).set node.toNat 0) v = if v = node then 0 else -1 := fun v v0 v1 => by
    rw [at0_set hn.1 hl v0]
    split
    · rfl
    · have : v.toNat < g.n.toNat := by omega
      simp [at0, List.getElem?_replicate, this]
  refine bf_dist hg hn _ _ (Nat.lt_succ_self _) ⟨by simp, ?_, fun v v0 v1 => ?_, ?_, fun v v0 v1 hv => ?_⟩
  · rw [get node hn.1 hn.2, if_pos rfl]
  · rw [get v v0 v1]
    split
    · exact .inr (Int.le_refl _)
    · exact .inl rfl
  · intro x hx
    rcases List.mem_or_eq_of_mem_set hx with h5 | h5
    · exact .inl (List.mem_replicate.1 h5).2
    · subst h5
      refine .inr ⟨Int.le_refl _, ?_⟩
      have e5 := neg_set (x := 0) hl (Int.le_refl _)
      have l5 := neg_le (List.replicate g.n.toNat (-1 : Int))
      simp at e5 ⊢
      omega
  · rw [get v v0 v1] at hv ⊢
    split at hv
    · rename_i e; exact .inl ⟨e, by rw [if_pos e]⟩
    · omega
theorem refFrom_dist {g : Gr} (hg : g.Ok) {down : List Bool} {node : Int} (hn : 0 ≤ node ∧ node < g.n) : IsDist g down node (refFrom g down node) := (refFrom_spec hg hn).1
theorem refFrom_mild {g : Gr} {down : List Bool} {node : Int} : ∀ x ∈ refFrom g down node, -1 ≤ x ∧ x ≤ 671088640 := by
  intro x hx
  by_cases h : g.check.2 = 0 ∧ 0 ≤ node ∧ node < g.n
  · have hg := g.check_ok.1 h.1
    obtain ⟨h1, h2⟩ := refFrom_spec (down := down) hg h.2
    have hl := h1.len
    have hn := hg.2.2.1
    have hneg := neg_le (refFrom g down node)
    rcases h2 x hx with h3 | h3
    · omega
    · omega
  · unfold refFrom at hx
    rw [if_neg h] at hx
    cases hx
theorem refFrom_nil {g : Gr} {down : List Bool} {node : Int} : refFrom g down node = [] ↔ ¬ (g.check.2 = 0 ∧ 0 ≤ node ∧ node < g.n) := by
  constructor
  · intro h h'
    have hg := g.check_ok.1 h'.1
    have hl := (refFrom_dist (down := down) hg h'.2).len
    rw [h] at hl
    simp at hl
    have := hg.2.1
    omega
  · intro h
    unfold refFrom
    rw [if_neg h]
end Go.Proofs

set_option linter.unusedVariables false
namespace Go.Proofs
/-! ### The heap's way -/
structure DjInv (g : Gr) (down : List Bool) (node : Int) (Q : Int → Prop) (h : List (Int × Int)) (out : List Int) : Prop where
  len : out.length = g.n.toNat
  ord : HOrd h
  neg : ∀ v, 0 ≤ v → v < g.n → at0 out v = -1 ∨ 0 ≤ at0 out v
  key0 : ∀ p ∈ h, 0 ≤ p.1 ∧ 0 ≤ p.2 ∧ p.2 < g.n
  src : at0 out node = 0 ∨ (at0 out node = -1 ∧ (0, node) ∈ h)
  mono : ∀ v, 0 ≤ v → v < g.n → 0 ≤ at0 out v → ∀ p ∈ h, at0 out v ≤ p.1
  edge : ∀ k, Use g down k → 0 ≤ at0 out (g.ends k).1 → (0 ≤ at0 out (g.ends k).2.1 ∧ at0 out (g.ends k).2.1 ≤ at0 out (g.ends k).1 + g.metric k) ∨ (at0 out (g.ends k).1 + g.metric k, (g.ends k).2.1) ∈ h ∨ Q k
  orig : ∀ p ∈ h, p = (0, node) ∨ ∃ k, Use g down k ∧ (g.ends k).2.1 = p.2 ∧ 0 ≤ at0 out (g.ends k).1 ∧ p.1 = at0 out (g.ends k).1 + g.metric k
  reach : ∀ v, 0 ≤ v → v < g.n → 0 ≤ at0 out v → (v = node ∧ at0 out v = 0) ∨ ∃ k, Use g down k ∧ (g.ends k).2.1 = v ∧ 0 ≤ at0 out (g.ends k).1 ∧ at0 out v = at0 out (g.ends k).1 + g.metric k

theorem Gr.out_mem {g : Gr} {k x : Int} (h0 : 0 ≤ k) (h1 : k < 2 * (g.ls.length : Int)) (h2 : (g.ends k).1 = x) : k ∈ g.out x := by
  unfold Gr.out Gr.outN
  rw [List.mem_filterMap]
  have e : ((k.toNat : Nat) : Int) = k := Int.toNat_of_nonneg h0
  exact ⟨k.toNat, List.mem_range.2 (by omega), by simp only [e]; rw [if_pos h2]⟩
theorem hpush_mem_iff {h : List (Int × Int)} {k v : Int} {p : Int × Int} : p ∈ hpush h k v ↔ p ∈ h ∨ p = (k, v) := by
  rw [(hpush_perm h k v).mem_iff]; simp
theorem mem_popped {h : List (Int × Int)} (hne : h ≠ []) {p : Int × Int} (hp : p ∈ h) : p = hg h 0 ∨ p ∈ popped h := by
  have := (popped_perm hne).mem_iff.2 hp
  simpa using this

theorem dj_relax {g : Gr} (hg : g.Ok) {down : List Bool} {node far at_ : Int} {out : List Int} (hfar : 0 ≤ far) (hat : at0 out at_ = far) (htop : ∀ v, 0 ≤ v → v < g.n → 0 ≤ at0 out v → at0 out v ≤ far) :
    ∀ (es : List Int) (h : List (Int × Int)), (∀ e ∈ es, 0 ≤ e ∧ e < 2 * (g.ls.length : Int) ∧ (g.ends e).1 = at_) → DjInv g down node (fun k => k ∈ es) h out → DjInv g down node (fun _ => False) (es.foldl (relax1 g down far out) h) out
  | [], h, _, hi => ⟨hi.len, hi.ord, hi.neg, hi.key0, hi.src, hi.mono, (fun k hk h0 => by
      rcases hi.edge k hk h0 with h1 | h1 | h1
      · exact .inl h1
      · exact .inr (.inl h1)
      · cases h1), hi.orig, hi.reach⟩
  | e :: r, h, hes, hi => by
    obtain ⟨e0, e1, e2⟩ := hes e (by simp)
    obtain ⟨v1, v2, v3, v4⟩ := g.ends_of hg e0 e1
    obtain ⟨m1, m2⟩ := g.metric_of hg e0 e1
    rw [List.foldl_cons]
    refine dj_relax hg hfar hat htop r _ (fun x hx => hes x (by simp [hx])) ?_
    unfold relax1
    by_cases hc : isUp down e = true ∧ out.getD (g.ends e).2.1.toNat 0 = -1
    · rw [if_pos hc]
      have huse : Use g down e := ⟨e0, e1, hc.1⟩
      refine ⟨hi.len, hpush_ord hi.ord _ _, hi.neg, fun p hp => ?_, ?_, fun v w0 w1 hv p hp => ?_, fun k hk h0 => ?_, fun p hp => ?_, hi.reach⟩
      · rcases hpush_mem hp with h1 | h1
        · exact hi.key0 p h1
        · subst h1; exact ⟨by show 0 ≤ far + g.metric e; omega, v2⟩
      · rcases hi.src with h1 | ⟨h1, h2⟩
        · exact .inl h1
        · exact .inr ⟨h1, hpush_mem_iff.2 (.inl h2)⟩
      · rcases hpush_mem hp with h1 | h1
        · exact hi.mono v w0 w1 hv p h1
        · subst h1
          have := htop v w0 w1 hv
          show at0 out v ≤ far + g.metric e
          omega
      · rcases hi.edge k hk h0 with h1 | h1 | h1
        · exact .inl h1
        · exact .inr (.inl (hpush_mem_iff.2 (.inl h1)))
        · rcases List.mem_cons.1 h1 with h2 | h2
          · subst h2
            refine .inr (.inl (hpush_mem_iff.2 (.inr ?_)))
            rw [e2, hat]
          · exact .inr (.inr h2)
      · rcases hpush_mem hp with h1 | h1
        · exact hi.orig p h1
        · subst h1
          exact .inr ⟨e, huse, rfl, by rw [e2, hat]; exact hfar, by rw [e2, hat]⟩
    · rw [if_neg hc]
      refine ⟨hi.len, hi.ord, hi.neg, hi.key0, hi.src, hi.mono, fun k hk h0 => ?_, hi.orig, hi.reach⟩
      rcases hi.edge k hk h0 with h1 | h1 | h1
      · exact .inl h1
      · exact .inr (.inl h1)
      · rcases List.mem_cons.1 h1 with h2 | h2
        · subst h2
          refine .inl ?_
          have h3 : ¬ (at0 out (g.ends k).2.1 = -1) := fun hx => hc ⟨hk.2.2, hx⟩
          have h4 := hi.neg _ v2.1 v2.2
          have h5 := htop _ v2.1 v2.2 (by omega)
          rw [e2, hat]
          omega
        · exact .inr (.inr h2)

theorem dj_skip {g : Gr} {down : List Bool} {node : Int} {h : List (Int × Int)} {out : List Int} (hne : h ≠ []) (hi : DjInv g down node (fun _ => False) h out) (hs : ¬ at0 out (hg h 0).2 = -1) : DjInv g down node (fun _ => False) (popped h) out := by
  have hm := hg0_mem hne
  obtain ⟨k1, k2, k3⟩ := hi.key0 _ hm
  have hs' := hi.neg _ k2 k3
  refine ⟨hi.len, popped_ord hi.ord, hi.neg, fun p hp => hi.key0 p (popped_mem hp), ?_, fun v w0 w1 hv p hp => hi.mono v w0 w1 hv p (popped_mem hp), fun k hk h0 => ?_, fun p hp => hi.orig p (popped_mem hp), hi.reach⟩
  · rcases hi.src with h1 | ⟨h1, h2⟩
    · exact .inl h1
    · rcases mem_popped hne h2 with h3 | h3
      · rw [← h3] at hs
        exact absurd h1 hs
      · exact .inr ⟨h1, h3⟩
  · rcases hi.edge k hk h0 with h1 | h1 | h1
    · exact .inl h1
    · rcases mem_popped hne h1 with h3 | h3
      · refine .inl ?_
        have e1 : (g.ends k).2.1 = (hg h 0).2 := congrArg Prod.snd h3
        have e2 : at0 out (g.ends k).1 + g.metric k = (hg h 0).1 := congrArg Prod.fst h3
        have := hi.mono _ k2 k3 (by omega) _ hm
        rw [e1, e2]
        omega
      · exact .inr (.inl h3)
    · exact h1.elim

theorem dj_take {g : Gr} (hg' : g.Ok) {down : List Bool} {node : Int} (hn : 0 ≤ node ∧ node < g.n) {h : List (Int × Int)} {out : List Int} (hne : h ≠ []) (hi : DjInv g down node (fun _ => False) h out) (hs : at0 out (hg h 0).2 = -1) :
    DjInv g down node (fun _ => False) ((g.out (hg h 0).2).foldl (relax1 g down (hg h 0).1 (out.set (hg h 0).2.toNat (hg h 0).1)) (popped h)) (out.set (hg h 0).2.toNat (hg h 0).1) := by
  have hm := hg0_mem hne
  obtain ⟨k1, k2, k3⟩ := hi.key0 _ hm
  have hmin : ∀ p ∈ h, (hg h 0).1 ≤ p.1 := fun p hp => root_le hi.ord hp
  have hmono0 : ∀ v, 0 ≤ v → v < g.n → 0 ≤ at0 out v → at0 out v ≤ (hg h 0).1 := fun v w0 w1 hv => hi.mono v w0 w1 hv _ hm
  have horig := hi.orig _ hm
  have hmp : ∀ p, p ∈ h → p = hg h 0 ∨ p ∈ popped h := fun p hp => mem_popped hne hp
  have hlen := hi.len
  have pairEq : hg h 0 = ((hg h 0).1, (hg h 0).2) := rfl
  generalize hfar : (hg h 0).1 = far at *
  generalize hat : (hg h 0).2 = at_ at *
  have hal : at_.toNat < out.length := by omega
  have get : ∀ v, 0 ≤ v → at0 (out.set at_.toNat far) v = if v = at_ then far else at0 out v := fun v w0 => at0_set k2 hal w0
  have same : ∀ v, 0 ≤ v → 0 ≤ at0 out v → at0 (out.set at_.toNat far) v = at0 out v := fun v w0 hv => by
    rw [get v w0]
    split
    · rename_i e; subst e; omega
    · rfl
  have htop : ∀ v, 0 ≤ v → v < g.n → 0 ≤ at0 (out.set at_.toNat far) v → at0 (out.set at_.toNat far) v ≤ far := fun v w0 w1 hv => by
    rw [get v w0] at hv ⊢
    split
    · exact Int.le_refl _
    · rename_i e; rw [if_neg e] at hv; exact hmono0 v w0 w1 hv
  refine dj_relax hg' k1 (by rw [get at_ k2, if_pos rfl]) htop _ _ (fun e he => ?_) ⟨by simpa using hlen, popped_ord hi.ord, fun v w0 w1 => ?_, fun p hp => hi.key0 p (popped_mem hp), ?_, fun v w0 w1 hv p hp => ?_, fun k hk h0 => ?_, fun p hp => ?_, fun v w0 w1 hv => ?_⟩
  · exact g.mem_out he
  · rw [get v w0]
    split
    · exact .inr k1
    · exact hi.neg v w0 w1
  · rw [get node hn.1]
    rcases hi.src with h1 | ⟨h1, h2⟩
    · refine .inl ?_
      split
      · rename_i e; subst e; omega
      · exact h1
    · by_cases e : node = at_
      · rw [if_pos e]
        have := hmin _ h2
        exact .inl (by simp at this; omega)
      · rw [if_neg e]
        rcases hmp _ h2 with h3 | h3
        · rw [pairEq] at h3
          exact absurd (congrArg Prod.snd h3) e
        · exact .inr ⟨h1, h3⟩
  · exact Int.le_trans (htop v w0 w1 hv) (hmin p (popped_mem hp))
  · obtain ⟨v1, v2, v3, v4⟩ := g.ends_of hg' hk.1 hk.2.1
    by_cases ea : (g.ends k).1 = at_
    · exact .inr (.inr (g.out_mem hk.1 hk.2.1 ea))
    · rw [get _ v1.1, if_neg ea] at h0 ⊢
      rcases hi.edge k hk h0 with h1 | h1 | h1
      · refine .inl ?_
        rw [same _ v2.1 h1.1]
        exact h1
      · rcases hmp _ h1 with h3 | h3
        · rw [pairEq] at h3
          have e1 : (g.ends k).2.1 = at_ := congrArg Prod.snd h3
          have e2 : at0 out (g.ends k).1 + g.metric k = far := congrArg Prod.fst h3
          refine .inl ?_
          rw [get _ v2.1, if_pos e1, e2]
          exact ⟨k1, Int.le_refl _⟩
        · exact .inr (.inl h3)
      · exact h1.elim
  · rcases hi.orig p (popped_mem hp) with h1 | ⟨k, q1, q2, q3, q4⟩
    · exact .inl h1
    · obtain ⟨v1, _⟩ := g.ends_of hg' q1.1 q1.2.1
      exact .inr ⟨k, q1, q2, by rw [same _ v1.1 q3]; exact q3, by rw [same _ v1.1 q3]; exact q4⟩
  · by_cases e : v = at_
    · rw [get v w0, if_pos e]
      rcases horig with h1 | ⟨k, q1, q2, q3, q4⟩
      · rw [pairEq] at h1
        exact .inl ⟨e.trans (congrArg Prod.snd h1), congrArg Prod.fst h1⟩
      · obtain ⟨v1, _⟩ := g.ends_of hg' q1.1 q1.2.1
        exact .inr ⟨k, q1, by rw [q2, e], by rw [same _ v1.1 q3]; exact q3, by rw [same _ v1.1 q3]; exact q4⟩
    · rw [get v w0, if_neg e] at hv ⊢
      rcases hi.reach v w0 w1 hv with h1 | ⟨k, q1, q2, q3, q4⟩
      · exact .inl h1
      · obtain ⟨v1, _⟩ := g.ends_of hg' q1.1 q1.2.1
        exact .inr ⟨k, q1, q2, by rw [same _ v1.1 q3]; exact q3, by rw [same _ v1.1 q3]; exact q4⟩

theorem dij_dist {g : Gr} (hok : g.Ok) {down : List Bool} {node : Int} (hn : 0 ≤ node ∧ node < g.n) : ∀ (f : Nat) (h : List (Int × Int)) (out : List Int), unset out * (2 * g.ls.length + 2) + h.length < f → DjInv g down node (fun _ => False) h out → IsDist g down node (dij g down f h out)
  | 0, h, out, hf, _ => by omega
  | f + 1, h, out, hf, hi => by
    unfold dij
    by_cases hne : h = []
    · rw [if_pos hne]
      subst hne
      refine ⟨hi.len, ?_, hi.neg, fun k hk h0 => ?_, hi.reach⟩
      · rcases hi.src with h1 | ⟨_, h2⟩
        · exact h1
        · cases h2
      · rcases hi.edge k hk h0 with h1 | h1 | h1
        · exact h1
        · cases h1
        · exact h1.elim
    · rw [if_neg hne]
      have hpl := popped_len hne
      by_cases hs : out.getD (hg h 0).2.toNat 0 = -1
      · rw [if_pos hs]
        obtain ⟨k1, k2, k3⟩ := hi.key0 _ (hg0_mem hne)
        have hlen := hi.len
        have hU := unset_set (x := (hg h 0).1) (i := (hg h 0).2.toNat) (by omega) hs k1
        have hlen2 : ∀ (es : List Int) (h' : List (Int × Int)), (es.foldl (relax1 g down (hg h 0).1 (out.set (hg h 0).2.toNat (hg h 0).1)) h').length ≤ h'.length + es.length := by
          intro es
          induction es with
          | nil => intro h'; simp
          | cons e r ih =>
            intro h'
            rw [List.foldl_cons]
            have := ih (relax1 g down (hg h 0).1 (out.set (hg h 0).2.toNat (hg h 0).1) h' e)
            have h2 : (relax1 g down (hg h 0).1 (out.set (hg h 0).2.toNat (hg h 0).1) h' e).length ≤ h'.length + 1 := by
              unfold relax1
              split
              · rw [hpush_len]; exact Nat.le_refl _
              · omega
            simp only [List.length_cons]
            omega
        have h3 := hlen2 (g.out (hg h 0).2) (popped h)
        have h4 := g.out_len (hg h 0).2
        refine dij_dist hok hn f _ _ ?_ (dj_take hok hn hne hi hs)
        rw [← hU, Nat.add_mul] at hf
        omega
      · rw [if_neg hs]
        exact dij_dist hok hn f _ _ (by omega) (dj_skip hne hi hs)
theorem spfFrom_dist {g : Gr} (hg : g.Ok) {down : List Bool} {node : Int} (hn : 0 ≤ node ∧ node < g.n) : IsDist g down node (spfFrom g down node) := by
  unfold spfFrom
  rw [if_pos ⟨g.check_ok.2 hg, hn⟩]
  have get : ∀ v, 0 ≤ v → v < g.n → at0 (List.replicate g.n.toNat (-1)) v = -1 := fun v v0 v1 => by
    have : v.toNat < g.n.toNat := by omega
    simp [at0, this]
  have hone : ∀ p, p ∈ hpush [] 0 node → p = (0, node) := fun p hp => by
    rcases hpush_mem hp with h1 | h1
    · cases h1
    · exact h1
  refine dij_dist hg hn _ _ _ ?_ ⟨by simp, hpush_ord (fun i h1 h2 => by simp at h2) _ _, fun v v0 v1 => .inl (get v v0 v1), fun p hp => ?_, .inr ⟨get node hn.1 hn.2, hpush_mem_iff.2 (.inr rfl)⟩, fun v v0 v1 hv => ?_, fun k hk h0 => ?_, fun p hp => .inl (hone p hp), fun v v0 v1 hv => ?_⟩
  · rw [hpush_len]
    unfold spfFuel unset
    simp
  · rw [hone p hp]; exact ⟨Int.le_refl _, hn⟩
  · rw [get v v0 v1] at hv; omega
  · obtain ⟨e1, _⟩ := g.ends_of hg hk.1 hk.2.1
    rw [get _ e1.1 e1.2] at h0; omega
  · rw [get v v0 v1] at hv; omega
/-- The heap's distances are the reference's. -/
theorem spf_eq_ref (g : Gr) (down : List Bool) (node : Int) : spfFrom g down node = refFrom g down node := by
  by_cases h : g.check.2 = 0 ∧ 0 ≤ node ∧ node < g.n
  · exact dist_uniq (g.check_ok.1 h.1) (spfFrom_dist (g.check_ok.1 h.1) h.2) (refFrom_dist (g.check_ok.1 h.1) h.2)
  · unfold spfFrom refFrom
    rw [if_neg h, if_neg h]
end Go.Proofs

set_option linter.unusedSimpArgs false
set_option linter.unusedVariables false
namespace Go.Proofs
open Go.Ab

/-! ### The next edges -/
def nextCond (g : Gr) (down : List Bool) (to : List Int) (node : Int) (e : Int) : Bool :=
  isUp down e && (decide (0 ≤ at0 to (g.ends e).2.1) && decide (at0 to node = at0 to (g.ends e).2.1 + g.metric e))
def nextOf (g : Gr) (down : List Bool) (to : List Int) (node : Int) : List Int :=
  if g.check.2 = 0 ∧ (to.length : Int) = g.n ∧ (0 ≤ node ∧ node < g.n) ∧ 0 < at0 to node then (g.out node).filter (nextCond g down to node) else []
def Mild (to : List Int) : Prop := ∀ x ∈ to, -1 ≤ x ∧ x ≤ 1000000000000

theorem spf_next_ok (g : Gr) (down : List Bool) (to : List Int) (node : Int) (hto : Mild to) : PGood Try.prog 27 [g.val, .lst (bools down), .lst (ints to), .i node] (.lst (ints (nextOf g down to node))) := by
  refine pgood_of_out 2 (good_of_wp isF27 (Nat.le_refl _) ?_)
  unfold ac27
  simp only [go_sem, Option.isSome_some, ↓reduceIte, if_true, if_false, Nat.reduceEqDiff, Nat.reduceAdd, Nat.reduceMul, Nat.reduceSub, Nat.reduceLT, Nat.reduceLeDiff, Nat.reduceDiv, Nat.reduceMod, Nat.reduceBEq, Int.reduceNeg, Int.reduceEq, Int.reduceNe, Int.reduceLT, Int.reduceLE, Int.reduceToNat, Int.reduceAdd, Int.reduceSub, Int.reduceMul, reduceCtorEq, decide_true, decide_false, Nat.zero_add, Nat.add_zero, Nat.zero_mul, Nat.sub_zero, Int.toNat_natCast, true_and, and_true, false_and, and_false, ne_eq, not_false_eq_true, not_true_eq_false, beq_self_eq_true, Bool.false_eq_true, Nat.le_refl, Nat.zero_le, Gr.val]
  intro gid hgid
  have nil : ¬ (g.check.2 = 0 ∧ (to.length : Int) = g.n ∧ (0 ≤ node ∧ node < g.n) ∧ 0 < at0 to node) → ∀ σ : Store, Out 2 σ .nils (.lst (ints (nextOf g down to node))) := fun h σ => by
    unfold nextOf; rw [if_neg h]; exact out_nils
  simp only [go_sem, Option.isSome_some, ↓reduceIte, if_true, if_false, Nat.reduceEqDiff, Nat.reduceAdd, Nat.reduceMul, Nat.reduceSub, Nat.reduceLT, Nat.reduceLeDiff, Nat.reduceDiv, Nat.reduceMod, Nat.reduceBEq, Int.reduceNeg, Int.reduceEq, Int.reduceNe, Int.reduceLT, Int.reduceLE, Int.reduceToNat, Int.reduceAdd, Int.reduceSub, Int.reduceMul, reduceCtorEq, decide_true, decide_false, Nat.zero_add, Nat.add_zero, Nat.zero_mul, Nat.sub_zero, Int.toNat_natCast, true_and, and_true, false_and, and_false, ne_eq, not_false_eq_true, not_true_eq_false, beq_self_eq_true, Bool.false_eq_true, Nat.le_refl, Nat.zero_le]
  refine good_imm (right_ok g) rfl ?_
  simp only [go_sem, Option.isSome_some, ↓reduceIte, if_true, if_false, Nat.reduceEqDiff, Nat.reduceAdd, Nat.reduceMul, Nat.reduceSub, Nat.reduceLT, Nat.reduceLeDiff, Nat.reduceDiv, Nat.reduceMod, Nat.reduceBEq, Int.reduceNeg, Int.reduceEq, Int.reduceNe, Int.reduceLT, Int.reduceLE, Int.reduceToNat, Int.reduceAdd, Int.reduceSub, Int.reduceMul, reduceCtorEq, decide_true, decide_false, Nat.zero_add, Nat.add_zero, Nat.zero_mul, Nat.sub_zero, Int.toNat_natCast, true_and, and_true, false_and, and_false, ne_eq, not_false_eq_true, not_true_eq_false, beq_self_eq_true, Bool.false_eq_true, Nat.le_refl, Nat.zero_le]
  by_cases hc : g.check.2 = 0
  case neg =>
    simp only [go_sem, Option.isSome_some, ↓reduceIte, if_true, if_false, Nat.reduceEqDiff, Nat.reduceAdd, Nat.reduceMul, Nat.reduceSub, Nat.reduceLT, Nat.reduceLeDiff, Nat.reduceDiv, Nat.reduceMod, Nat.reduceBEq, Int.reduceNeg, Int.reduceEq, Int.reduceNe, Int.reduceLT, Int.reduceLE, Int.reduceToNat, Int.reduceAdd, Int.reduceSub, Int.reduceMul, reduceCtorEq, decide_true, decide_false, Nat.zero_add, Nat.add_zero, Nat.zero_mul, Nat.sub_zero, Int.toNat_natCast, true_and, and_true, false_and, and_false, ne_eq, not_false_eq_true, not_true_eq_false, beq_self_eq_true, Bool.false_eq_true, Nat.le_refl, Nat.zero_le, hc]
    exact nil (fun h => hc h.1) _
  simp only [go_sem, Option.isSome_some, ↓reduceIte, if_true, if_false, Nat.reduceEqDiff, Nat.reduceAdd, Nat.reduceMul, Nat.reduceSub, Nat.reduceLT, Nat.reduceLeDiff, Nat.reduceDiv, Nat.reduceMod, Nat.reduceBEq, Int.reduceNeg, Int.reduceEq, Int.reduceNe, Int.reduceLT, Int.reduceLE, Int.reduceToNat, Int.reduceAdd, Int.reduceSub, Int.reduceMul, reduceCtorEq, decide_true, decide_false, Nat.zero_add, Nat.add_zero, Nat.zero_mul, Nat.sub_zero, Int.toNat_natCast, true_and, and_true, false_and, and_false, ne_eq, not_false_eq_true, not_true_eq_false, beq_self_eq_true, Bool.false_eq_true, Nat.le_refl, Nat.zero_le, hc]
  by_cases hl : (to.length : Int) = g.n
  case neg =>
    simp only [go_sem, Option.isSome_some, ↓reduceIte, if_true, if_false, Nat.reduceEqDiff, Nat.reduceAdd, Nat.reduceMul, Nat.reduceSub, Nat.reduceLT, Nat.reduceLeDiff, Nat.reduceDiv, Nat.reduceMod, Nat.reduceBEq, Int.reduceNeg, Int.reduceEq, Int.reduceNe, Int.reduceLT, Int.reduceLE, Int.reduceToNat, Int.reduceAdd, Int.reduceSub, Int.reduceMul, reduceCtorEq, decide_true, decide_false, Nat.zero_add, Nat.add_zero, Nat.zero_mul, Nat.sub_zero, Int.toNat_natCast, true_and, and_true, false_and, and_false, ne_eq, not_false_eq_true, not_true_eq_false, beq_self_eq_true, Bool.false_eq_true, Nat.le_refl, Nat.zero_le, hl]
    exact nil (fun h => hl h.2.1) _
  simp only [go_sem, Option.isSome_some, ↓reduceIte, if_true, if_false, Nat.reduceEqDiff, Nat.reduceAdd, Nat.reduceMul, Nat.reduceSub, Nat.reduceLT, Nat.reduceLeDiff, Nat.reduceDiv, Nat.reduceMod, Nat.reduceBEq, Int.reduceNeg, Int.reduceEq, Int.reduceNe, Int.reduceLT, Int.reduceLE, Int.reduceToNat, Int.reduceAdd, Int.reduceSub, Int.reduceMul, reduceCtorEq, decide_true, decide_false, Nat.zero_add, Nat.add_zero, Nat.zero_mul, Nat.sub_zero, Int.toNat_natCast, true_and, and_true, false_and, and_false, ne_eq, not_false_eq_true, not_true_eq_false, beq_self_eq_true, Bool.false_eq_true, Nat.le_refl, Nat.zero_le, hl]
  refine good_imm (is_ok g.n (.lst (g.ls.map Lk.row)) node) rfl ?_
  simp only [go_sem, Option.isSome_some, ↓reduceIte, if_true, if_false, Nat.reduceEqDiff, Nat.reduceAdd, Nat.reduceMul, Nat.reduceSub, Nat.reduceLT, Nat.reduceLeDiff, Nat.reduceDiv, Nat.reduceMod, Nat.reduceBEq, Int.reduceNeg, Int.reduceEq, Int.reduceNe, Int.reduceLT, Int.reduceLE, Int.reduceToNat, Int.reduceAdd, Int.reduceSub, Int.reduceMul, reduceCtorEq, decide_true, decide_false, Nat.zero_add, Nat.add_zero, Nat.zero_mul, Nat.sub_zero, Int.toNat_natCast, true_and, and_true, false_and, and_false, ne_eq, not_false_eq_true, not_true_eq_false, beq_self_eq_true, Bool.false_eq_true, Nat.le_refl, Nat.zero_le]
  by_cases hn : 0 ≤ node ∧ node < g.n
  case neg =>
    simp only [go_sem, Option.isSome_some, ↓reduceIte, if_true, if_false, Nat.reduceEqDiff, Nat.reduceAdd, Nat.reduceMul, Nat.reduceSub, Nat.reduceLT, Nat.reduceLeDiff, Nat.reduceDiv, Nat.reduceMod, Nat.reduceBEq, Int.reduceNeg, Int.reduceEq, Int.reduceNe, Int.reduceLT, Int.reduceLE, Int.reduceToNat, Int.reduceAdd, Int.reduceSub, Int.reduceMul, reduceCtorEq, decide_true, decide_false, Nat.zero_add, Nat.add_zero, Nat.zero_mul, Nat.sub_zero, Int.toNat_natCast, true_and, and_true, false_and, and_false, ne_eq, not_false_eq_true, not_true_eq_false, beq_self_eq_true, Bool.false_eq_true, Nat.le_refl, Nat.zero_le, hn]
    exact nil (fun h => hn h.2.2.1) _
  have hni : node.toNat < to.length := by omega
  have x1 : (ints to)[node.toNat]? = some [.sc (.int .i64 (at0 to node))] := ints_get (by simp [hni])
  simp only [go_sem, Option.isSome_some, ↓reduceIte, if_true, if_false, Nat.reduceEqDiff, Nat.reduceAdd, Nat.reduceMul, Nat.reduceSub, Nat.reduceLT, Nat.reduceLeDiff, Nat.reduceDiv, Nat.reduceMod, Nat.reduceBEq, Int.reduceNeg, Int.reduceEq, Int.reduceNe, Int.reduceLT, Int.reduceLE, Int.reduceToNat, Int.reduceAdd, Int.reduceSub, Int.reduceMul, reduceCtorEq, decide_true, decide_false, Nat.zero_add, Nat.add_zero, Nat.zero_mul, Nat.sub_zero, Int.toNat_natCast, true_and, and_true, false_and, and_false, ne_eq, not_false_eq_true, not_true_eq_false, beq_self_eq_true, Bool.false_eq_true, Nat.le_refl, Nat.zero_le, hn, x1]
  by_cases hp : at0 to node ≤ 0
  · simp only [go_sem, Option.isSome_some, ↓reduceIte, if_true, if_false, Nat.reduceEqDiff, Nat.reduceAdd, Nat.reduceMul, Nat.reduceSub, Nat.reduceLT, Nat.reduceLeDiff, Nat.reduceDiv, Nat.reduceMod, Nat.reduceBEq, Int.reduceNeg, Int.reduceEq, Int.reduceNe, Int.reduceLT, Int.reduceLE, Int.reduceToNat, Int.reduceAdd, Int.reduceSub, Int.reduceMul, reduceCtorEq, decide_true, decide_false, Nat.zero_add, Nat.add_zero, Nat.zero_mul, Nat.sub_zero, Int.toNat_natCast, true_and, and_true, false_and, and_false, ne_eq, not_false_eq_true, not_true_eq_false, beq_self_eq_true, Bool.false_eq_true, Nat.le_refl, Nat.zero_le, hp]
    exact nil (fun h => by omega) _
  obtain ⟨k1, k2, k3, k4⟩ := g.check_ok.1 hc
  have hok : g.Ok := ⟨k1, k2, k3, k4⟩
  simp only [go_sem, Option.isSome_some, ↓reduceIte, if_true, if_false, Nat.reduceEqDiff, Nat.reduceAdd, Nat.reduceMul, Nat.reduceSub, Nat.reduceLT, Nat.reduceLeDiff, Nat.reduceDiv, Nat.reduceMod, Nat.reduceBEq, Int.reduceNeg, Int.reduceEq, Int.reduceNe, Int.reduceLT, Int.reduceLE, Int.reduceToNat, Int.reduceAdd, Int.reduceSub, Int.reduceMul, reduceCtorEq, decide_true, decide_false, Nat.zero_add, Nat.add_zero, Nat.zero_mul, Nat.sub_zero, Int.toNat_natCast, true_and, and_true, false_and, and_false, ne_eq, not_false_eq_true, not_true_eq_false, beq_self_eq_true, Bool.false_eq_true, Nat.le_refl, Nat.zero_le, hp]
  refine good_imm (out_ok g node (by omega)) rfl ?_
  simp only [go_sem, Option.isSome_some, ↓reduceIte, if_true, if_false, Nat.reduceEqDiff, Nat.reduceAdd, Nat.reduceMul, Nat.reduceSub, Nat.reduceLT, Nat.reduceLeDiff, Nat.reduceDiv, Nat.reduceMod, Nat.reduceBEq, Int.reduceNeg, Int.reduceEq, Int.reduceNe, Int.reduceLT, Int.reduceLE, Int.reduceToNat, Int.reduceAdd, Int.reduceSub, Int.reduceMul, reduceCtorEq, decide_true, decide_false, Nat.zero_add, Nat.add_zero, Nat.zero_mul, Nat.sub_zero, Int.toNat_natCast, true_and, and_true, false_and, and_false, ne_eq, not_false_eq_true, not_true_eq_false, beq_self_eq_true, Bool.false_eq_true, Nat.le_refl, Nat.zero_le]
  have fin : nextOf g down to node = (g.out node).filter (nextCond g down to node) := by unfold nextOf; rw [if_pos ⟨hc, hl, hn, by omega⟩]
  have hol := g.out_len node
  have gal : ∀ (o : Ab.Obj), Alive (Store.empty.set gid o) [gid] := fun o => alive_cons (Store.get_set_self _ _ _) alive_nil
  refine loop_rule (fun m fr σ => ∃ (j : Nat) (v : AVal), j ≤ (g.out node).length ∧ m = (g.out node).length - j ∧ fr = [(1, .lst (bools down)), (2, .lst (ints to)), (3, .i node), (4, .ptr gid 0 0 0), (9, v), (40, .lst (ints (g.out node))), (41, .i (g.out node).length), (42, .i j)] ∧
    σ.get gid = some (.row 0 false 2 [[.sc (.int .i64 g.n), .lst (g.ls.map Lk.row)]]) ∧ Acc σ 1 v (ints (((g.out node).take j).filter (nextCond g down to node))) [gid]) _
    ⟨0, .nils, by omega, rfl, rfl, by simp, acc_nils (gal _)⟩ ?_
  rintro m fr σ ⟨j, v, hj, rfl, rfl, g1, acc⟩
  simp only [go_sem, Option.isSome_some, ↓reduceIte, if_true, if_false, Nat.reduceEqDiff, Nat.reduceAdd, Nat.reduceMul, Nat.reduceSub, Nat.reduceLT, Nat.reduceLeDiff, Nat.reduceDiv, Nat.reduceMod, Nat.reduceBEq, Int.reduceNeg, Int.reduceEq, Int.reduceNe, Int.reduceLT, Int.reduceLE, Int.reduceToNat, Int.reduceAdd, Int.reduceSub, Int.reduceMul, reduceCtorEq, decide_true, decide_false, Nat.zero_add, Nat.add_zero, Nat.zero_mul, Nat.sub_zero, Int.toNat_natCast, true_and, and_true, false_and, and_false, ne_eq, not_false_eq_true, not_true_eq_false, beq_self_eq_true, Bool.false_eq_true, Nat.le_refl, Nat.zero_le]
  refine .intro (fun hjl => ?_) (fun hjl => ?_)
  · have hjl' : j < (g.out node).length := by omega
    have hmem := List.getElem_mem hjl'
    have x2 : (ints (g.out node))[j]? = some [.sc (.int .i64 (g.out node)[j])] := ints_get (List.getElem?_eq_getElem hjl')
    have htake : ((g.out node).take (j + 1)).filter (nextCond g down to node) = ((g.out node).take j).filter (nextCond g down to node) ++ (if nextCond g down to node (g.out node)[j] then [(g.out node)[j]] else []) := by
      rw [List.take_succ_eq_append_getElem hjl', List.filter_append]
      congr 1
      simp [List.filter_cons]
    generalize (g.out node)[j] = e at *
    obtain ⟨e1, e2, e3⟩ := g.mem_out hmem
    obtain ⟨v1, v2, v3, v4⟩ := g.ends_of hok e1 e2
    obtain ⟨v5, v6⟩ := g.metric_of hok e1 e2
    have n4 : (0 : Int) ≤ j := by omega
    have w4 : IntKind.i64.wrap ((j : Int) + 1) = ((j + 1 : Nat) : Int) := by rw [wrap_id (by omega) (by omega)]; rfl
    simp only [go_sem, Option.isSome_some, ↓reduceIte, if_true, if_false, Nat.reduceEqDiff, Nat.reduceAdd, Nat.reduceMul, Nat.reduceSub, Nat.reduceLT, Nat.reduceLeDiff, Nat.reduceDiv, Nat.reduceMod, Nat.reduceBEq, Int.reduceNeg, Int.reduceEq, Int.reduceNe, Int.reduceLT, Int.reduceLE, Int.reduceToNat, Int.reduceAdd, Int.reduceSub, Int.reduceMul, reduceCtorEq, decide_true, decide_false, Nat.zero_add, Nat.add_zero, Nat.zero_mul, Nat.sub_zero, Int.toNat_natCast, true_and, and_true, false_and, and_false, ne_eq, not_false_eq_true, not_true_eq_false, beq_self_eq_true, Bool.false_eq_true, Nat.le_refl, Nat.zero_le, n4, x2, rowAt_get g1]
    refine good_imm (ends_ok g e (by omega)) rfl ?_
    simp only [go_sem, Option.isSome_some, ↓reduceIte, if_true, if_false, Nat.reduceEqDiff, Nat.reduceAdd, Nat.reduceMul, Nat.reduceSub, Nat.reduceLT, Nat.reduceLeDiff, Nat.reduceDiv, Nat.reduceMod, Nat.reduceBEq, Int.reduceNeg, Int.reduceEq, Int.reduceNe, Int.reduceLT, Int.reduceLE, Int.reduceToNat, Int.reduceAdd, Int.reduceSub, Int.reduceMul, reduceCtorEq, decide_true, decide_false, Nat.zero_add, Nat.add_zero, Nat.zero_mul, Nat.sub_zero, Int.toNat_natCast, true_and, and_true, false_and, and_false, ne_eq, not_false_eq_true, not_true_eq_false, beq_self_eq_true, Bool.false_eq_true, Nat.le_refl, Nat.zero_le]
    unfold op27_53
    simp only [go_sem, Option.isSome_some, ↓reduceIte, if_true, if_false, Nat.reduceEqDiff, Nat.reduceAdd, Nat.reduceMul, Nat.reduceSub, Nat.reduceLT, Nat.reduceLeDiff, Nat.reduceDiv, Nat.reduceMod, Nat.reduceBEq, Int.reduceNeg, Int.reduceEq, Int.reduceNe, Int.reduceLT, Int.reduceLE, Int.reduceToNat, Int.reduceAdd, Int.reduceSub, Int.reduceMul, reduceCtorEq, decide_true, decide_false, Nat.zero_add, Nat.add_zero, Nat.zero_mul, Nat.sub_zero, Int.toNat_natCast, true_and, and_true, false_and, and_false, ne_eq, not_false_eq_true, not_true_eq_false, beq_self_eq_true, Bool.false_eq_true, Nat.le_refl, Nat.zero_le]
    refine goodD_imm (up_ok down e e1 (by omega)) rfl ?_
    have same : nextCond g down to node e = false → Back (fun m fr σ => ∃ (j : Nat) (v : AVal), j ≤ (g.out node).length ∧ m = (g.out node).length - j ∧ fr = [(1, .lst (bools down)), (2, .lst (ints to)), (3, .i node), (4, .ptr gid 0 0 0), (9, v), (40, .lst (ints (g.out node))), (41, .i (g.out node).length), (42, .i j)] ∧
        σ.get gid = some (.row 0 false 2 [[.sc (.int .i64 g.n), .lst (g.ls.map Lk.row)]]) ∧ Acc σ 1 v (ints (((g.out node).take j).filter (nextCond g down to node))) [gid]) ((g.out node).length - j)
        [(1, .lst (bools down)), (2, .lst (ints to)), (3, .i node), (4, .ptr gid 0 0 0), (9, v), (40, .lst (ints (g.out node))), (41, .i (g.out node).length), (42, .i ((j + 1 : Nat) : Int))] σ := fun hne => by
      refine back_of ((g.out node).length - (j + 1)) (by omega) ⟨j + 1, v, by omega, rfl, rfl, g1, ?_⟩
      rw [htake, hne]
      simpa using acc
    have hq : IntKind.i64.wrap (e.tdiv 2) = e / 2 := by
      rw [Int.tdiv_eq_ediv_of_nonneg (by omega)]
      exact wrap_id (by omega) (by omega)
    have hlt : (e / 2).toNat < g.ls.length := by omega
    have x4 : (g.ls.map Lk.row)[(e / 2).toNat]? = some [.sc (.int .i64 (g.ls[(e / 2).toNat]).a), .sc (.int .i64 (g.ls[(e / 2).toNat]).b), .sc (.int .i64 (g.metric e)), .sc (.int .i64 (g.ls[(e / 2).toNat]).c)] := by
      simp [hlt, Lk.row, Gr.metric]
    have n6 : (0 : Int) ≤ e / 2 := by omega
    have cond : nextCond g down to node e = (isUp down e && (decide (0 ≤ at0 to (g.ends e).2.1) && decide (at0 to node = at0 to (g.ends e).2.1 + g.metric e))) := rfl
    generalize hto' : (g.ends e).2.1 = b at *
    have hbi : b.toNat < to.length := by omega
    have x3 : (ints to)[b.toNat]? = some [.sc (.int .i64 (at0 to b))] := ints_get (by simp [hbi])
    have mb : -1 ≤ at0 to b ∧ at0 to b ≤ 1000000000000 := hto _ (by simp [hbi])
    have mn : -1 ≤ at0 to node ∧ at0 to node ≤ 1000000000000 := hto _ (by simp [hni])
    have w5 : IntKind.i64.wrap (at0 to node - g.metric e) = at0 to node - g.metric e := wrap_id (by omega) (by omega)
    have hn1 := hn.1
    have hnl : node < (to.length : Int) := by omega
    have hbl : b < (to.length : Int) := by omega
    simp only [go_sem, Option.isSome_some, ↓reduceIte, if_true, if_false, Nat.reduceEqDiff, Nat.reduceAdd, Nat.reduceMul, Nat.reduceSub, Nat.reduceLT, Nat.reduceLeDiff, Nat.reduceDiv, Nat.reduceMod, Nat.reduceBEq, Int.reduceNeg, Int.reduceEq, Int.reduceNe, Int.reduceLT, Int.reduceLE, Int.reduceToNat, Int.reduceAdd, Int.reduceSub, Int.reduceMul, reduceCtorEq, decide_true, decide_false, Nat.zero_add, Nat.add_zero, Nat.zero_mul, Nat.sub_zero, Int.toNat_natCast, true_and, and_true, false_and, and_false, ne_eq, not_false_eq_true, not_true_eq_false, beq_self_eq_true, Bool.false_eq_true, Nat.le_refl, Nat.zero_le]
    cases q1 : isUp down e with
    | false =>
      simp only [go_sem, Option.isSome_some, ↓reduceIte, if_true, if_false, Nat.reduceEqDiff, Nat.reduceAdd, Nat.reduceMul, Nat.reduceSub, Nat.reduceLT, Nat.reduceLeDiff, Nat.reduceDiv, Nat.reduceMod, Nat.reduceBEq, Int.reduceNeg, Int.reduceEq, Int.reduceNe, Int.reduceLT, Int.reduceLE, Int.reduceToNat, Int.reduceAdd, Int.reduceSub, Int.reduceMul, reduceCtorEq, decide_true, decide_false, Nat.zero_add, Nat.add_zero, Nat.zero_mul, Nat.sub_zero, Int.toNat_natCast, true_and, and_true, false_and, and_false, ne_eq, not_false_eq_true, not_true_eq_false, beq_self_eq_true, Bool.false_eq_true, Nat.le_refl, Nat.zero_le, w4]
      exact same (by rw [cond, q1]; rfl)
    | true =>
      simp only [go_sem, Option.isSome_some, ↓reduceIte, if_true, if_false, Nat.reduceEqDiff, Nat.reduceAdd, Nat.reduceMul, Nat.reduceSub, Nat.reduceLT, Nat.reduceLeDiff, Nat.reduceDiv, Nat.reduceMod, Nat.reduceBEq, Int.reduceNeg, Int.reduceEq, Int.reduceNe, Int.reduceLT, Int.reduceLE, Int.reduceToNat, Int.reduceAdd, Int.reduceSub, Int.reduceMul, reduceCtorEq, decide_true, decide_false, Nat.zero_add, Nat.add_zero, Nat.zero_mul, Nat.sub_zero, Int.toNat_natCast, true_and, and_true, false_and, and_false, ne_eq, not_false_eq_true, not_true_eq_false, beq_self_eq_true, Bool.false_eq_true, Nat.le_refl, Nat.zero_le, v2.1, x3]
      by_cases q2 : 0 ≤ at0 to b
      · simp only [go_sem, Option.isSome_some, ↓reduceIte, if_true, if_false, Nat.reduceEqDiff, Nat.reduceAdd, Nat.reduceMul, Nat.reduceSub, Nat.reduceLT, Nat.reduceLeDiff, Nat.reduceDiv, Nat.reduceMod, Nat.reduceBEq, Int.reduceNeg, Int.reduceEq, Int.reduceNe, Int.reduceLT, Int.reduceLE, Int.reduceToNat, Int.reduceAdd, Int.reduceSub, Int.reduceMul, reduceCtorEq, decide_true, decide_false, Nat.zero_add, Nat.add_zero, Nat.zero_mul, Nat.sub_zero, Int.toNat_natCast, true_and, and_true, false_and, and_false, ne_eq, not_false_eq_true, not_true_eq_false, beq_self_eq_true, Bool.false_eq_true, Nat.le_refl, Nat.zero_le, q2, hn1, x1, rowAt_get g1, hq, n6, x4, w5, v2.1, x3]
        by_cases q3 : at0 to node - g.metric e = at0 to b
        · simp only [go_sem, Option.isSome_some, ↓reduceIte, if_true, if_false, Nat.reduceEqDiff, Nat.reduceAdd, Nat.reduceMul, Nat.reduceSub, Nat.reduceLT, Nat.reduceLeDiff, Nat.reduceDiv, Nat.reduceMod, Nat.reduceBEq, Int.reduceNeg, Int.reduceEq, Int.reduceNe, Int.reduceLT, Int.reduceLE, Int.reduceToNat, Int.reduceAdd, Int.reduceSub, Int.reduceMul, reduceCtorEq, decide_true, decide_false, Nat.zero_add, Nat.add_zero, Nat.zero_mul, Nat.sub_zero, Int.toNat_natCast, true_and, and_true, false_and, and_false, ne_eq, not_false_eq_true, not_true_eq_false, beq_self_eq_true, Bool.false_eq_true, Nat.le_refl, Nat.zero_le, q3]
          have ct : nextCond g down to node e = true := by
            have this : at0 to node = at0 to b + g.metric e := by omega
            rw [cond, q1, decide_eq_true q2, decide_eq_true this]; rfl
          intro id2 hid2
          simp only [go_sem, Option.isSome_some, ↓reduceIte, if_true, if_false, Nat.reduceEqDiff, Nat.reduceAdd, Nat.reduceMul, Nat.reduceSub, Nat.reduceLT, Nat.reduceLeDiff, Nat.reduceDiv, Nat.reduceMod, Nat.reduceBEq, Int.reduceNeg, Int.reduceEq, Int.reduceNe, Int.reduceLT, Int.reduceLE, Int.reduceToNat, Int.reduceAdd, Int.reduceSub, Int.reduceMul, reduceCtorEq, decide_true, decide_false, Nat.zero_add, Nat.add_zero, Nat.zero_mul, Nat.sub_zero, Int.toNat_natCast, true_and, and_true, false_and, and_false, ne_eq, not_false_eq_true, not_true_eq_false, beq_self_eq_true, Bool.false_eq_true, Nat.le_refl, Nat.zero_le]
          have hlenf := List.length_filter_le (nextCond g down to node) ((g.out node).take j)
          have hlent : ((g.out node).take j).length ≤ j := by simp; omega
          refine acc_append (acc.fresh hid2 _) (by simp only [ints_len, List.length_cons, List.length_nil]; omega) (by simp only [ints_len, List.length_cons, List.length_nil]; omega) fun v' σ' k1 k2 => ?_
          simp only [go_sem, Option.isSome_some, ↓reduceIte, if_true, if_false, Nat.reduceEqDiff, Nat.reduceAdd, Nat.reduceMul, Nat.reduceSub, Nat.reduceLT, Nat.reduceLeDiff, Nat.reduceDiv, Nat.reduceMod, Nat.reduceBEq, Int.reduceNeg, Int.reduceEq, Int.reduceNe, Int.reduceLT, Int.reduceLE, Int.reduceToNat, Int.reduceAdd, Int.reduceSub, Int.reduceMul, reduceCtorEq, decide_true, decide_false, Nat.zero_add, Nat.add_zero, Nat.zero_mul, Nat.sub_zero, Int.toNat_natCast, true_and, and_true, false_and, and_false, ne_eq, not_false_eq_true, not_true_eq_false, beq_self_eq_true, Bool.false_eq_true, Nat.le_refl, Nat.zero_le, w4]
          refine back_of _ ?_ ⟨j + 1, v', by omega, rfl, rfl, ?_, ?_⟩
          · omega
          · rw [k2 gid (by simp), get_fresh hid2 (by rw [g1]; rfl), g1]
          · rw [htake, ct, if_pos rfl, ints_app]
            exact k1.less (by simp)
        · simp only [go_sem, Option.isSome_some, ↓reduceIte, if_true, if_false, Nat.reduceEqDiff, Nat.reduceAdd, Nat.reduceMul, Nat.reduceSub, Nat.reduceLT, Nat.reduceLeDiff, Nat.reduceDiv, Nat.reduceMod, Nat.reduceBEq, Int.reduceNeg, Int.reduceEq, Int.reduceNe, Int.reduceLT, Int.reduceLE, Int.reduceToNat, Int.reduceAdd, Int.reduceSub, Int.reduceMul, reduceCtorEq, decide_true, decide_false, Nat.zero_add, Nat.add_zero, Nat.zero_mul, Nat.sub_zero, Int.toNat_natCast, true_and, and_true, false_and, and_false, ne_eq, not_false_eq_true, not_true_eq_false, beq_self_eq_true, Bool.false_eq_true, Nat.le_refl, Nat.zero_le, q3, w4]
          refine same ?_
          have this : ¬ at0 to node = at0 to b + g.metric e := by omega
          rw [cond, q1, decide_eq_false this, Bool.and_false, Bool.and_false]
      · simp only [go_sem, Option.isSome_some, ↓reduceIte, if_true, if_false, Nat.reduceEqDiff, Nat.reduceAdd, Nat.reduceMul, Nat.reduceSub, Nat.reduceLT, Nat.reduceLeDiff, Nat.reduceDiv, Nat.reduceMod, Nat.reduceBEq, Int.reduceNeg, Int.reduceEq, Int.reduceNe, Int.reduceLT, Int.reduceLE, Int.reduceToNat, Int.reduceAdd, Int.reduceSub, Int.reduceMul, reduceCtorEq, decide_true, decide_false, Nat.zero_add, Nat.add_zero, Nat.zero_mul, Nat.sub_zero, Int.toNat_natCast, true_and, and_true, false_and, and_false, ne_eq, not_false_eq_true, not_true_eq_false, beq_self_eq_true, Bool.false_eq_true, Nat.le_refl, Nat.zero_le, q2, w4]
        refine same ?_
        rw [cond, q1, decide_eq_false q2, Bool.false_and, Bool.and_false]
  · simp only [go_sem, Option.isSome_some, ↓reduceIte, if_true, if_false, Nat.reduceEqDiff, Nat.reduceAdd, Nat.reduceMul, Nat.reduceSub, Nat.reduceLT, Nat.reduceLeDiff, Nat.reduceDiv, Nat.reduceMod, Nat.reduceBEq, Int.reduceNeg, Int.reduceEq, Int.reduceNe, Int.reduceLT, Int.reduceLE, Int.reduceToNat, Int.reduceAdd, Int.reduceSub, Int.reduceMul, reduceCtorEq, decide_true, decide_false, Nat.zero_add, Nat.add_zero, Nat.zero_mul, Nat.sub_zero, Int.toNat_natCast, true_and, and_true, false_and, and_false, ne_eq, not_false_eq_true, not_true_eq_false, beq_self_eq_true, Bool.false_eq_true, Nat.le_refl, Nat.zero_le]
    have e : j = (g.out node).length := by omega
    subst e
    rw [List.take_length] at acc
    rw [fin]
    exact acc_out acc (ints_sc _)
end Go.Proofs

set_option linter.unusedSimpArgs false
set_option linter.unusedVariables false
namespace Go.Proofs
open Go.Ab

theorem ref_next_ok (g : Gr) (down : List Bool) (to : List Int) (node : Int) (hto : Mild to) : PGood Try.prog 24 [g.val, .lst (bools down), .lst (ints to), .i node] (.lst (ints (nextOf g down to node))) := by
  refine pgood_of_out 2 (good_of_wp isF24 (Nat.le_refl _) ?_)
  unfold ac24
  simp only [go_sem, Option.isSome_some, ↓reduceIte, if_true, if_false, Nat.reduceEqDiff, Nat.reduceAdd, Nat.reduceMul, Nat.reduceSub, Nat.reduceLT, Nat.reduceLeDiff, Nat.reduceDiv, Nat.reduceMod, Nat.reduceBEq, Int.reduceNeg, Int.reduceEq, Int.reduceNe, Int.reduceLT, Int.reduceLE, Int.reduceToNat, Int.reduceAdd, Int.reduceSub, Int.reduceMul, reduceCtorEq, decide_true, decide_false, Nat.zero_add, Nat.add_zero, Nat.zero_mul, Nat.sub_zero, Int.toNat_natCast, true_and, and_true, false_and, and_false, ne_eq, not_false_eq_true, not_true_eq_false, beq_self_eq_true, Bool.false_eq_true, Nat.le_refl, Nat.zero_le, Gr.val]
  intro gid hgid
  have nil : ¬ (g.check.2 = 0 ∧ (to.length : Int) = g.n ∧ (0 ≤ node ∧ node < g.n) ∧ 0 < at0 to node) → ∀ σ : Store, Out 2 σ .nils (.lst (ints (nextOf g down to node))) := fun h σ => by
    unfold nextOf; rw [if_neg h]; exact out_nils
  simp only [go_sem, Option.isSome_some, ↓reduceIte, if_true, if_false, Nat.reduceEqDiff, Nat.reduceAdd, Nat.reduceMul, Nat.reduceSub, Nat.reduceLT, Nat.reduceLeDiff, Nat.reduceDiv, Nat.reduceMod, Nat.reduceBEq, Int.reduceNeg, Int.reduceEq, Int.reduceNe, Int.reduceLT, Int.reduceLE, Int.reduceToNat, Int.reduceAdd, Int.reduceSub, Int.reduceMul, reduceCtorEq, decide_true, decide_false, Nat.zero_add, Nat.add_zero, Nat.zero_mul, Nat.sub_zero, Int.toNat_natCast, true_and, and_true, false_and, and_false, ne_eq, not_false_eq_true, not_true_eq_false, beq_self_eq_true, Bool.false_eq_true, Nat.le_refl, Nat.zero_le]
  refine good_imm (rcheck_ok g) rfl ?_
  simp only [go_sem, Option.isSome_some, ↓reduceIte, if_true, if_false, Nat.reduceEqDiff, Nat.reduceAdd, Nat.reduceMul, Nat.reduceSub, Nat.reduceLT, Nat.reduceLeDiff, Nat.reduceDiv, Nat.reduceMod, Nat.reduceBEq, Int.reduceNeg, Int.reduceEq, Int.reduceNe, Int.reduceLT, Int.reduceLE, Int.reduceToNat, Int.reduceAdd, Int.reduceSub, Int.reduceMul, reduceCtorEq, decide_true, decide_false, Nat.zero_add, Nat.add_zero, Nat.zero_mul, Nat.sub_zero, Int.toNat_natCast, true_and, and_true, false_and, and_false, ne_eq, not_false_eq_true, not_true_eq_false, beq_self_eq_true, Bool.false_eq_true, Nat.le_refl, Nat.zero_le]
  by_cases hc : g.check.2 = 0
  case neg =>
    simp only [go_sem, Option.isSome_some, ↓reduceIte, if_true, if_false, Nat.reduceEqDiff, Nat.reduceAdd, Nat.reduceMul, Nat.reduceSub, Nat.reduceLT, Nat.reduceLeDiff, Nat.reduceDiv, Nat.reduceMod, Nat.reduceBEq, Int.reduceNeg, Int.reduceEq, Int.reduceNe, Int.reduceLT, Int.reduceLE, Int.reduceToNat, Int.reduceAdd, Int.reduceSub, Int.reduceMul, reduceCtorEq, decide_true, decide_false, Nat.zero_add, Nat.add_zero, Nat.zero_mul, Nat.sub_zero, Int.toNat_natCast, true_and, and_true, false_and, and_false, ne_eq, not_false_eq_true, not_true_eq_false, beq_self_eq_true, Bool.false_eq_true, Nat.le_refl, Nat.zero_le, hc]
    exact nil (fun h => hc h.1) _
  simp only [go_sem, Option.isSome_some, ↓reduceIte, if_true, if_false, Nat.reduceEqDiff, Nat.reduceAdd, Nat.reduceMul, Nat.reduceSub, Nat.reduceLT, Nat.reduceLeDiff, Nat.reduceDiv, Nat.reduceMod, Nat.reduceBEq, Int.reduceNeg, Int.reduceEq, Int.reduceNe, Int.reduceLT, Int.reduceLE, Int.reduceToNat, Int.reduceAdd, Int.reduceSub, Int.reduceMul, reduceCtorEq, decide_true, decide_false, Nat.zero_add, Nat.add_zero, Nat.zero_mul, Nat.sub_zero, Int.toNat_natCast, true_and, and_true, false_and, and_false, ne_eq, not_false_eq_true, not_true_eq_false, beq_self_eq_true, Bool.false_eq_true, Nat.le_refl, Nat.zero_le, hc]
  by_cases hl : (to.length : Int) = g.n
  case neg =>
    simp only [go_sem, Option.isSome_some, ↓reduceIte, if_true, if_false, Nat.reduceEqDiff, Nat.reduceAdd, Nat.reduceMul, Nat.reduceSub, Nat.reduceLT, Nat.reduceLeDiff, Nat.reduceDiv, Nat.reduceMod, Nat.reduceBEq, Int.reduceNeg, Int.reduceEq, Int.reduceNe, Int.reduceLT, Int.reduceLE, Int.reduceToNat, Int.reduceAdd, Int.reduceSub, Int.reduceMul, reduceCtorEq, decide_true, decide_false, Nat.zero_add, Nat.add_zero, Nat.zero_mul, Nat.sub_zero, Int.toNat_natCast, true_and, and_true, false_and, and_false, ne_eq, not_false_eq_true, not_true_eq_false, beq_self_eq_true, Bool.false_eq_true, Nat.le_refl, Nat.zero_le, hl]
    exact nil (fun h => hl h.2.1) _
  simp only [go_sem, Option.isSome_some, ↓reduceIte, if_true, if_false, Nat.reduceEqDiff, Nat.reduceAdd, Nat.reduceMul, Nat.reduceSub, Nat.reduceLT, Nat.reduceLeDiff, Nat.reduceDiv, Nat.reduceMod, Nat.reduceBEq, Int.reduceNeg, Int.reduceEq, Int.reduceNe, Int.reduceLT, Int.reduceLE, Int.reduceToNat, Int.reduceAdd, Int.reduceSub, Int.reduceMul, reduceCtorEq, decide_true, decide_false, Nat.zero_add, Nat.add_zero, Nat.zero_mul, Nat.sub_zero, Int.toNat_natCast, true_and, and_true, false_and, and_false, ne_eq, not_false_eq_true, not_true_eq_false, beq_self_eq_true, Bool.false_eq_true, Nat.le_refl, Nat.zero_le, hl]
  refine good_imm (node_ok g.n (.lst (g.ls.map Lk.row)) node) rfl ?_
  simp only [go_sem, Option.isSome_some, ↓reduceIte, if_true, if_false, Nat.reduceEqDiff, Nat.reduceAdd, Nat.reduceMul, Nat.reduceSub, Nat.reduceLT, Nat.reduceLeDiff, Nat.reduceDiv, Nat.reduceMod, Nat.reduceBEq, Int.reduceNeg, Int.reduceEq, Int.reduceNe, Int.reduceLT, Int.reduceLE, Int.reduceToNat, Int.reduceAdd, Int.reduceSub, Int.reduceMul, reduceCtorEq, decide_true, decide_false, Nat.zero_add, Nat.add_zero, Nat.zero_mul, Nat.sub_zero, Int.toNat_natCast, true_and, and_true, false_and, and_false, ne_eq, not_false_eq_true, not_true_eq_false, beq_self_eq_true, Bool.false_eq_true, Nat.le_refl, Nat.zero_le]
  by_cases hn : 0 ≤ node ∧ node < g.n
  case neg =>
    simp only [go_sem, Option.isSome_some, ↓reduceIte, if_true, if_false, Nat.reduceEqDiff, Nat.reduceAdd, Nat.reduceMul, Nat.reduceSub, Nat.reduceLT, Nat.reduceLeDiff, Nat.reduceDiv, Nat.reduceMod, Nat.reduceBEq, Int.reduceNeg, Int.reduceEq, Int.reduceNe, Int.reduceLT, Int.reduceLE, Int.reduceToNat, Int.reduceAdd, Int.reduceSub, Int.reduceMul, reduceCtorEq, decide_true, decide_false, Nat.zero_add, Nat.add_zero, Nat.zero_mul, Nat.sub_zero, Int.toNat_natCast, true_and, and_true, false_and, and_false, ne_eq, not_false_eq_true, not_true_eq_false, beq_self_eq_true, Bool.false_eq_true, Nat.le_refl, Nat.zero_le, hn]
    exact nil (fun h => hn h.2.2.1) _
  have hni : node.toNat < to.length := by omega
  have x1 : (ints to)[node.toNat]? = some [.sc (.int .i64 (at0 to node))] := ints_get (by simp [hni])
  simp only [go_sem, Option.isSome_some, ↓reduceIte, if_true, if_false, Nat.reduceEqDiff, Nat.reduceAdd, Nat.reduceMul, Nat.reduceSub, Nat.reduceLT, Nat.reduceLeDiff, Nat.reduceDiv, Nat.reduceMod, Nat.reduceBEq, Int.reduceNeg, Int.reduceEq, Int.reduceNe, Int.reduceLT, Int.reduceLE, Int.reduceToNat, Int.reduceAdd, Int.reduceSub, Int.reduceMul, reduceCtorEq, decide_true, decide_false, Nat.zero_add, Nat.add_zero, Nat.zero_mul, Nat.sub_zero, Int.toNat_natCast, true_and, and_true, false_and, and_false, ne_eq, not_false_eq_true, not_true_eq_false, beq_self_eq_true, Bool.false_eq_true, Nat.le_refl, Nat.zero_le, hn, x1]
  by_cases hp : at0 to node ≤ 0
  · simp only [go_sem, Option.isSome_some, ↓reduceIte, if_true, if_false, Nat.reduceEqDiff, Nat.reduceAdd, Nat.reduceMul, Nat.reduceSub, Nat.reduceLT, Nat.reduceLeDiff, Nat.reduceDiv, Nat.reduceMod, Nat.reduceBEq, Int.reduceNeg, Int.reduceEq, Int.reduceNe, Int.reduceLT, Int.reduceLE, Int.reduceToNat, Int.reduceAdd, Int.reduceSub, Int.reduceMul, reduceCtorEq, decide_true, decide_false, Nat.zero_add, Nat.add_zero, Nat.zero_mul, Nat.sub_zero, Int.toNat_natCast, true_and, and_true, false_and, and_false, ne_eq, not_false_eq_true, not_true_eq_false, beq_self_eq_true, Bool.false_eq_true, Nat.le_refl, Nat.zero_le, hp]
    exact nil (fun h => by omega) _
  obtain ⟨k1, k2, k3, k4⟩ := g.check_ok.1 hc
  have hok : g.Ok := ⟨k1, k2, k3, k4⟩
  simp only [go_sem, Option.isSome_some, ↓reduceIte, if_true, if_false, Nat.reduceEqDiff, Nat.reduceAdd, Nat.reduceMul, Nat.reduceSub, Nat.reduceLT, Nat.reduceLeDiff, Nat.reduceDiv, Nat.reduceMod, Nat.reduceBEq, Int.reduceNeg, Int.reduceEq, Int.reduceNe, Int.reduceLT, Int.reduceLE, Int.reduceToNat, Int.reduceAdd, Int.reduceSub, Int.reduceMul, reduceCtorEq, decide_true, decide_false, Nat.zero_add, Nat.add_zero, Nat.zero_mul, Nat.sub_zero, Int.toNat_natCast, true_and, and_true, false_and, and_false, ne_eq, not_false_eq_true, not_true_eq_false, beq_self_eq_true, Bool.false_eq_true, Nat.le_refl, Nat.zero_le, hp]
  refine good_imm (rout_ok g node (by omega)) rfl ?_
  simp only [go_sem, Option.isSome_some, ↓reduceIte, if_true, if_false, Nat.reduceEqDiff, Nat.reduceAdd, Nat.reduceMul, Nat.reduceSub, Nat.reduceLT, Nat.reduceLeDiff, Nat.reduceDiv, Nat.reduceMod, Nat.reduceBEq, Int.reduceNeg, Int.reduceEq, Int.reduceNe, Int.reduceLT, Int.reduceLE, Int.reduceToNat, Int.reduceAdd, Int.reduceSub, Int.reduceMul, reduceCtorEq, decide_true, decide_false, Nat.zero_add, Nat.add_zero, Nat.zero_mul, Nat.sub_zero, Int.toNat_natCast, true_and, and_true, false_and, and_false, ne_eq, not_false_eq_true, not_true_eq_false, beq_self_eq_true, Bool.false_eq_true, Nat.le_refl, Nat.zero_le]
  have fin : nextOf g down to node = (g.out node).filter (nextCond g down to node) := by unfold nextOf; rw [if_pos ⟨hc, hl, hn, by omega⟩]
  have hol := g.out_len node
  have gal : ∀ (o : Ab.Obj), Alive (Store.empty.set gid o) [gid] := fun o => alive_cons (Store.get_set_self _ _ _) alive_nil
  refine loop_rule (fun m fr σ => ∃ (j : Nat) (v : AVal), j ≤ (g.out node).length ∧ m = (g.out node).length - j ∧ fr = [(1, .lst (bools down)), (2, .lst (ints to)), (3, .i node), (4, .ptr gid 0 0 0), (11, v), (12, .lst (ints (g.out node))), (13, .i j)] ∧
    σ.get gid = some (.row 0 false 2 [[.sc (.int .i64 g.n), .lst (g.ls.map Lk.row)]]) ∧ Acc σ 1 v (ints (((g.out node).take j).filter (nextCond g down to node))) [gid]) _
    ⟨0, .nils, by omega, rfl, rfl, by simp, acc_nils (gal _)⟩ ?_
  rintro m fr σ ⟨j, v, hj, rfl, rfl, g1, acc⟩
  simp only [go_sem, Option.isSome_some, ↓reduceIte, if_true, if_false, Nat.reduceEqDiff, Nat.reduceAdd, Nat.reduceMul, Nat.reduceSub, Nat.reduceLT, Nat.reduceLeDiff, Nat.reduceDiv, Nat.reduceMod, Nat.reduceBEq, Int.reduceNeg, Int.reduceEq, Int.reduceNe, Int.reduceLT, Int.reduceLE, Int.reduceToNat, Int.reduceAdd, Int.reduceSub, Int.reduceMul, reduceCtorEq, decide_true, decide_false, Nat.zero_add, Nat.add_zero, Nat.zero_mul, Nat.sub_zero, Int.toNat_natCast, true_and, and_true, false_and, and_false, ne_eq, not_false_eq_true, not_true_eq_false, beq_self_eq_true, Bool.false_eq_true, Nat.le_refl, Nat.zero_le]
  refine .intro (fun hjl => ?_) (fun hjl => ?_)
  · have hjl' : j < (g.out node).length := by omega
    have hmem := List.getElem_mem hjl'
    have x2 : (ints (g.out node))[j]? = some [.sc (.int .i64 (g.out node)[j])] := ints_get (List.getElem?_eq_getElem hjl')
    have htake : ((g.out node).take (j + 1)).filter (nextCond g down to node) = ((g.out node).take j).filter (nextCond g down to node) ++ (if nextCond g down to node (g.out node)[j] then [(g.out node)[j]] else []) := by
      rw [List.take_succ_eq_append_getElem hjl', List.filter_append]
      congr 1
      simp [List.filter_cons]
    generalize (g.out node)[j] = e at *
    obtain ⟨e1, e2, e3⟩ := g.mem_out hmem
    obtain ⟨v1, v2, v3, v4⟩ := g.ends_of hok e1 e2
    obtain ⟨v5, v6⟩ := g.metric_of hok e1 e2
    have n4 : (0 : Int) ≤ j := by omega
    have w4 : IntKind.i64.wrap ((j : Int) + 1) = ((j + 1 : Nat) : Int) := by rw [wrap_id (by omega) (by omega)]; rfl
    have hjl2 : (j : Int) < (g.out node).length := hjl
    simp only [go_sem, Option.isSome_some, ↓reduceIte, if_true, if_false, Nat.reduceEqDiff, Nat.reduceAdd, Nat.reduceMul, Nat.reduceSub, Nat.reduceLT, Nat.reduceLeDiff, Nat.reduceDiv, Nat.reduceMod, Nat.reduceBEq, Int.reduceNeg, Int.reduceEq, Int.reduceNe, Int.reduceLT, Int.reduceLE, Int.reduceToNat, Int.reduceAdd, Int.reduceSub, Int.reduceMul, reduceCtorEq, decide_true, decide_false, Nat.zero_add, Nat.add_zero, Nat.zero_mul, Nat.sub_zero, Int.toNat_natCast, true_and, and_true, false_and, and_false, ne_eq, not_false_eq_true, not_true_eq_false, beq_self_eq_true, Bool.false_eq_true, Nat.le_refl, Nat.zero_le]
    unfold op24_54
    simp only [go_sem, Option.isSome_some, ↓reduceIte, if_true, if_false, Nat.reduceEqDiff, Nat.reduceAdd, Nat.reduceMul, Nat.reduceSub, Nat.reduceLT, Nat.reduceLeDiff, Nat.reduceDiv, Nat.reduceMod, Nat.reduceBEq, Int.reduceNeg, Int.reduceEq, Int.reduceNe, Int.reduceLT, Int.reduceLE, Int.reduceToNat, Int.reduceAdd, Int.reduceSub, Int.reduceMul, reduceCtorEq, decide_true, decide_false, Nat.zero_add, Nat.add_zero, Nat.zero_mul, Nat.sub_zero, Int.toNat_natCast, true_and, and_true, false_and, and_false, ne_eq, not_false_eq_true, not_true_eq_false, beq_self_eq_true, Bool.false_eq_true, Nat.le_refl, Nat.zero_le, n4, x2, rowAt_get g1]
    refine goodD_imm (rends_ok g e (by omega)) rfl ?_
    simp only [go_sem, Option.isSome_some, ↓reduceIte, if_true, if_false, Nat.reduceEqDiff, Nat.reduceAdd, Nat.reduceMul, Nat.reduceSub, Nat.reduceLT, Nat.reduceLeDiff, Nat.reduceDiv, Nat.reduceMod, Nat.reduceBEq, Int.reduceNeg, Int.reduceEq, Int.reduceNe, Int.reduceLT, Int.reduceLE, Int.reduceToNat, Int.reduceAdd, Int.reduceSub, Int.reduceMul, reduceCtorEq, decide_true, decide_false, Nat.zero_add, Nat.add_zero, Nat.zero_mul, Nat.sub_zero, Int.toNat_natCast, true_and, and_true, false_and, and_false, ne_eq, not_false_eq_true, not_true_eq_false, beq_self_eq_true, Bool.false_eq_true, Nat.le_refl, Nat.zero_le]
    unfold op24_63
    have hq : IntKind.i64.wrap (e.tdiv 2) = e / 2 := by
      rw [Int.tdiv_eq_ediv_of_nonneg (by omega)]
      exact wrap_id (by omega) (by omega)
    simp only [go_sem, Option.isSome_some, ↓reduceIte, if_true, if_false, Nat.reduceEqDiff, Nat.reduceAdd, Nat.reduceMul, Nat.reduceSub, Nat.reduceLT, Nat.reduceLeDiff, Nat.reduceDiv, Nat.reduceMod, Nat.reduceBEq, Int.reduceNeg, Int.reduceEq, Int.reduceNe, Int.reduceLT, Int.reduceLE, Int.reduceToNat, Int.reduceAdd, Int.reduceSub, Int.reduceMul, reduceCtorEq, decide_true, decide_false, Nat.zero_add, Nat.add_zero, Nat.zero_mul, Nat.sub_zero, Int.toNat_natCast, true_and, and_true, false_and, and_false, ne_eq, not_false_eq_true, not_true_eq_false, beq_self_eq_true, Bool.false_eq_true, Nat.le_refl, Nat.zero_le, n4, x2, hq]
    refine goodD_imm (isdown_ok down (e / 2)) rfl ?_
    have same : nextCond g down to node e = false → Back (fun m fr σ => ∃ (j : Nat) (v : AVal), j ≤ (g.out node).length ∧ m = (g.out node).length - j ∧ fr = [(1, .lst (bools down)), (2, .lst (ints to)), (3, .i node), (4, .ptr gid 0 0 0), (11, v), (12, .lst (ints (g.out node))), (13, .i j)] ∧
        σ.get gid = some (.row 0 false 2 [[.sc (.int .i64 g.n), .lst (g.ls.map Lk.row)]]) ∧ Acc σ 1 v (ints (((g.out node).take j).filter (nextCond g down to node))) [gid]) ((g.out node).length - j)
        [(1, .lst (bools down)), (2, .lst (ints to)), (3, .i node), (4, .ptr gid 0 0 0), (11, v), (12, .lst (ints (g.out node))), (13, .i ((j + 1 : Nat) : Int))] σ := fun hne => by
      refine back_of ((g.out node).length - (j + 1)) (by omega) ⟨j + 1, v, by omega, rfl, rfl, g1, ?_⟩
      rw [htake, hne]
      simpa using acc
    have hlt : (e / 2).toNat < g.ls.length := by omega
    have x4 : (g.ls.map Lk.row)[(e / 2).toNat]? = some [.sc (.int .i64 (g.ls[(e / 2).toNat]).a), .sc (.int .i64 (g.ls[(e / 2).toNat]).b), .sc (.int .i64 (g.metric e)), .sc (.int .i64 (g.ls[(e / 2).toNat]).c)] := by
      simp [hlt, Lk.row, Gr.metric]
    have n6 : (0 : Int) ≤ e / 2 := by omega
    have cond : nextCond g down to node e = (isUp down e && (decide (0 ≤ at0 to (g.ends e).2.1) && decide (at0 to node = at0 to (g.ends e).2.1 + g.metric e))) := rfl
    generalize hto' : (g.ends e).2.1 = b at *
    have hbi : b.toNat < to.length := by omega
    have x3 : (ints to)[b.toNat]? = some [.sc (.int .i64 (at0 to b))] := ints_get (by simp [hbi])
    have mb : -1 ≤ at0 to b ∧ at0 to b ≤ 1000000000000 := hto _ (by simp [hbi])
    have mn : -1 ≤ at0 to node ∧ at0 to node ≤ 1000000000000 := hto _ (by simp [hni])
    have w5 : IntKind.i64.wrap (at0 to node - at0 to b) = at0 to node - at0 to b := wrap_id (by omega) (by omega)
    have ud := up_down down e e1
    have hn1 := hn.1
    have hnl : node < (to.length : Int) := by omega
    have hbl : b < (to.length : Int) := by omega
    simp only [go_sem, Option.isSome_some, ↓reduceIte, if_true, if_false, Nat.reduceEqDiff, Nat.reduceAdd, Nat.reduceMul, Nat.reduceSub, Nat.reduceLT, Nat.reduceLeDiff, Nat.reduceDiv, Nat.reduceMod, Nat.reduceBEq, Int.reduceNeg, Int.reduceEq, Int.reduceNe, Int.reduceLT, Int.reduceLE, Int.reduceToNat, Int.reduceAdd, Int.reduceSub, Int.reduceMul, reduceCtorEq, decide_true, decide_false, Nat.zero_add, Nat.add_zero, Nat.zero_mul, Nat.sub_zero, Int.toNat_natCast, true_and, and_true, false_and, and_false, ne_eq, not_false_eq_true, not_true_eq_false, beq_self_eq_true, Bool.false_eq_true, Nat.le_refl, Nat.zero_le]
    cases q0 : isDown down (e / 2) with
    | true =>
      have q1 : isUp down e = false := by rw [ud, q0]; rfl
      simp only [go_sem, Option.isSome_some, ↓reduceIte, if_true, if_false, Nat.reduceEqDiff, Nat.reduceAdd, Nat.reduceMul, Nat.reduceSub, Nat.reduceLT, Nat.reduceLeDiff, Nat.reduceDiv, Nat.reduceMod, Nat.reduceBEq, Int.reduceNeg, Int.reduceEq, Int.reduceNe, Int.reduceLT, Int.reduceLE, Int.reduceToNat, Int.reduceAdd, Int.reduceSub, Int.reduceMul, reduceCtorEq, decide_true, decide_false, Nat.zero_add, Nat.add_zero, Nat.zero_mul, Nat.sub_zero, Int.toNat_natCast, true_and, and_true, false_and, and_false, ne_eq, not_false_eq_true, not_true_eq_false, beq_self_eq_true, Bool.false_eq_true, Nat.le_refl, Nat.zero_le, w4]
      exact same (by rw [cond, q1]; rfl)
    | false =>
      have q1 : isUp down e = true := by rw [ud, q0]; rfl
      simp only [go_sem, Option.isSome_some, ↓reduceIte, if_true, if_false, Nat.reduceEqDiff, Nat.reduceAdd, Nat.reduceMul, Nat.reduceSub, Nat.reduceLT, Nat.reduceLeDiff, Nat.reduceDiv, Nat.reduceMod, Nat.reduceBEq, Int.reduceNeg, Int.reduceEq, Int.reduceNe, Int.reduceLT, Int.reduceLE, Int.reduceToNat, Int.reduceAdd, Int.reduceSub, Int.reduceMul, reduceCtorEq, decide_true, decide_false, Nat.zero_add, Nat.add_zero, Nat.zero_mul, Nat.sub_zero, Int.toNat_natCast, true_and, and_true, false_and, and_false, ne_eq, not_false_eq_true, not_true_eq_false, beq_self_eq_true, Bool.false_eq_true, Nat.le_refl, Nat.zero_le, v2.1, x3]
      by_cases q2 : 0 ≤ at0 to b
      · simp only [go_sem, Option.isSome_some, ↓reduceIte, if_true, if_false, Nat.reduceEqDiff, Nat.reduceAdd, Nat.reduceMul, Nat.reduceSub, Nat.reduceLT, Nat.reduceLeDiff, Nat.reduceDiv, Nat.reduceMod, Nat.reduceBEq, Int.reduceNeg, Int.reduceEq, Int.reduceNe, Int.reduceLT, Int.reduceLE, Int.reduceToNat, Int.reduceAdd, Int.reduceSub, Int.reduceMul, reduceCtorEq, decide_true, decide_false, Nat.zero_add, Nat.add_zero, Nat.zero_mul, Nat.sub_zero, Int.toNat_natCast, true_and, and_true, false_and, and_false, ne_eq, not_false_eq_true, not_true_eq_false, beq_self_eq_true, Bool.false_eq_true, Nat.le_refl, Nat.zero_le, q2, hn1, x1, rowAt_get g1, hq, n6, x4, w5, v2.1, x3, n4, x2]
        by_cases q3 : at0 to node - at0 to b = g.metric e
        · simp only [go_sem, Option.isSome_some, ↓reduceIte, if_true, if_false, Nat.reduceEqDiff, Nat.reduceAdd, Nat.reduceMul, Nat.reduceSub, Nat.reduceLT, Nat.reduceLeDiff, Nat.reduceDiv, Nat.reduceMod, Nat.reduceBEq, Int.reduceNeg, Int.reduceEq, Int.reduceNe, Int.reduceLT, Int.reduceLE, Int.reduceToNat, Int.reduceAdd, Int.reduceSub, Int.reduceMul, reduceCtorEq, decide_true, decide_false, Nat.zero_add, Nat.add_zero, Nat.zero_mul, Nat.sub_zero, Int.toNat_natCast, true_and, and_true, false_and, and_false, ne_eq, not_false_eq_true, not_true_eq_false, beq_self_eq_true, Bool.false_eq_true, Nat.le_refl, Nat.zero_le, q3, n4, x2]
          have ct : nextCond g down to node e = true := by
            have this : at0 to node = at0 to b + g.metric e := by omega
            rw [cond, q1, decide_eq_true q2, decide_eq_true this]; rfl
          intro id2 hid2
          simp only [go_sem, Option.isSome_some, ↓reduceIte, if_true, if_false, Nat.reduceEqDiff, Nat.reduceAdd, Nat.reduceMul, Nat.reduceSub, Nat.reduceLT, Nat.reduceLeDiff, Nat.reduceDiv, Nat.reduceMod, Nat.reduceBEq, Int.reduceNeg, Int.reduceEq, Int.reduceNe, Int.reduceLT, Int.reduceLE, Int.reduceToNat, Int.reduceAdd, Int.reduceSub, Int.reduceMul, reduceCtorEq, decide_true, decide_false, Nat.zero_add, Nat.add_zero, Nat.zero_mul, Nat.sub_zero, Int.toNat_natCast, true_and, and_true, false_and, and_false, ne_eq, not_false_eq_true, not_true_eq_false, beq_self_eq_true, Bool.false_eq_true, Nat.le_refl, Nat.zero_le]
          have hlenf := List.length_filter_le (nextCond g down to node) ((g.out node).take j)
          have hlent : ((g.out node).take j).length ≤ j := by simp; omega
          refine acc_append (acc.fresh hid2 _) (by simp only [ints_len, List.length_cons, List.length_nil]; omega) (by simp only [ints_len, List.length_cons, List.length_nil]; omega) fun v' σ' k1 k2 => ?_
          simp only [go_sem, Option.isSome_some, ↓reduceIte, if_true, if_false, Nat.reduceEqDiff, Nat.reduceAdd, Nat.reduceMul, Nat.reduceSub, Nat.reduceLT, Nat.reduceLeDiff, Nat.reduceDiv, Nat.reduceMod, Nat.reduceBEq, Int.reduceNeg, Int.reduceEq, Int.reduceNe, Int.reduceLT, Int.reduceLE, Int.reduceToNat, Int.reduceAdd, Int.reduceSub, Int.reduceMul, reduceCtorEq, decide_true, decide_false, Nat.zero_add, Nat.add_zero, Nat.zero_mul, Nat.sub_zero, Int.toNat_natCast, true_and, and_true, false_and, and_false, ne_eq, not_false_eq_true, not_true_eq_false, beq_self_eq_true, Bool.false_eq_true, Nat.le_refl, Nat.zero_le, w4]
          refine back_of _ ?_ ⟨j + 1, v', by omega, rfl, rfl, ?_, ?_⟩
          · omega
          · rw [k2 gid (by simp), get_fresh hid2 (by rw [g1]; rfl), g1]
          · rw [htake, ct, if_pos rfl, ints_app]
            exact k1.less (by simp)
        · simp only [go_sem, Option.isSome_some, ↓reduceIte, if_true, if_false, Nat.reduceEqDiff, Nat.reduceAdd, Nat.reduceMul, Nat.reduceSub, Nat.reduceLT, Nat.reduceLeDiff, Nat.reduceDiv, Nat.reduceMod, Nat.reduceBEq, Int.reduceNeg, Int.reduceEq, Int.reduceNe, Int.reduceLT, Int.reduceLE, Int.reduceToNat, Int.reduceAdd, Int.reduceSub, Int.reduceMul, reduceCtorEq, decide_true, decide_false, Nat.zero_add, Nat.add_zero, Nat.zero_mul, Nat.sub_zero, Int.toNat_natCast, true_and, and_true, false_and, and_false, ne_eq, not_false_eq_true, not_true_eq_false, beq_self_eq_true, Bool.false_eq_true, Nat.le_refl, Nat.zero_le, q3, w4]
          refine same ?_
          have this : ¬ at0 to node = at0 to b + g.metric e := by omega
          rw [cond, q1, decide_eq_false this, Bool.and_false, Bool.and_false]
      · simp only [go_sem, Option.isSome_some, ↓reduceIte, if_true, if_false, Nat.reduceEqDiff, Nat.reduceAdd, Nat.reduceMul, Nat.reduceSub, Nat.reduceLT, Nat.reduceLeDiff, Nat.reduceDiv, Nat.reduceMod, Nat.reduceBEq, Int.reduceNeg, Int.reduceEq, Int.reduceNe, Int.reduceLT, Int.reduceLE, Int.reduceToNat, Int.reduceAdd, Int.reduceSub, Int.reduceMul, reduceCtorEq, decide_true, decide_false, Nat.zero_add, Nat.add_zero, Nat.zero_mul, Nat.sub_zero, Int.toNat_natCast, true_and, and_true, false_and, and_false, ne_eq, not_false_eq_true, not_true_eq_false, beq_self_eq_true, Bool.false_eq_true, Nat.le_refl, Nat.zero_le, q2, w4]
        refine same ?_
        rw [cond, q1, decide_eq_false q2, Bool.false_and, Bool.and_false]
  · simp only [go_sem, Option.isSome_some, ↓reduceIte, if_true, if_false, Nat.reduceEqDiff, Nat.reduceAdd, Nat.reduceMul, Nat.reduceSub, Nat.reduceLT, Nat.reduceLeDiff, Nat.reduceDiv, Nat.reduceMod, Nat.reduceBEq, Int.reduceNeg, Int.reduceEq, Int.reduceNe, Int.reduceLT, Int.reduceLE, Int.reduceToNat, Int.reduceAdd, Int.reduceSub, Int.reduceMul, reduceCtorEq, decide_true, decide_false, Nat.zero_add, Nat.add_zero, Nat.zero_mul, Nat.sub_zero, Int.toNat_natCast, true_and, and_true, false_and, and_false, ne_eq, not_false_eq_true, not_true_eq_false, beq_self_eq_true, Bool.false_eq_true, Nat.le_refl, Nat.zero_le]
    have e : j = (g.out node).length := by omega
    subst e
    rw [List.take_length] at acc
    rw [fin]
    exact acc_out acc (ints_sc _)
end Go.Proofs

set_option linter.unusedSimpArgs false
set_option linter.unusedVariables false
namespace Go.Proofs
open Go.Ab

theorem same_ok (a b : List Int) (ha : a.length < 1000000000) : PGood Try.prog 11 [.lst (ints a), .lst (ints b)] (.b (decide (a = b))) := by
  refine pgood_of_out 1 (good_of_wp isF11 (Nat.le_refl _) ?_)
  unfold ac11
  simp only [go_sem, Option.isSome_some, ↓reduceIte, if_true, if_false, Nat.reduceEqDiff, Nat.reduceAdd, Nat.reduceMul, Nat.reduceSub, Nat.reduceLT, Nat.reduceLeDiff, Nat.reduceDiv, Nat.reduceMod, Nat.reduceBEq, Int.reduceNeg, Int.reduceEq, Int.reduceNe, Int.reduceLT, Int.reduceLE, Int.reduceToNat, Int.reduceAdd, Int.reduceSub, Int.reduceMul, reduceCtorEq, decide_true, decide_false, Nat.zero_add, Nat.add_zero, Nat.zero_mul, Nat.sub_zero, Int.toNat_natCast, true_and, and_true, false_and, and_false, ne_eq, not_false_eq_true, not_true_eq_false, beq_self_eq_true, Bool.false_eq_true, Nat.le_refl, Nat.zero_le]
  by_cases hl : (a.length : Int) = b.length
  case neg =>
    simp only [go_sem, Option.isSome_some, ↓reduceIte, if_true, if_false, Nat.reduceEqDiff, Nat.reduceAdd, Nat.reduceMul, Nat.reduceSub, Nat.reduceLT, Nat.reduceLeDiff, Nat.reduceDiv, Nat.reduceMod, Nat.reduceBEq, Int.reduceNeg, Int.reduceEq, Int.reduceNe, Int.reduceLT, Int.reduceLE, Int.reduceToNat, Int.reduceAdd, Int.reduceSub, Int.reduceMul, reduceCtorEq, decide_true, decide_false, Nat.zero_add, Nat.add_zero, Nat.zero_mul, Nat.sub_zero, Int.toNat_natCast, true_and, and_true, false_and, and_false, ne_eq, not_false_eq_true, not_true_eq_false, beq_self_eq_true, Bool.false_eq_true, Nat.le_refl, Nat.zero_le, hl]
    have e : ¬ a = b := fun e => hl (by rw [e])
    rw [decide_eq_false e]
    exact out_sc
  simp only [go_sem, Option.isSome_some, ↓reduceIte, if_true, if_false, Nat.reduceEqDiff, Nat.reduceAdd, Nat.reduceMul, Nat.reduceSub, Nat.reduceLT, Nat.reduceLeDiff, Nat.reduceDiv, Nat.reduceMod, Nat.reduceBEq, Int.reduceNeg, Int.reduceEq, Int.reduceNe, Int.reduceLT, Int.reduceLE, Int.reduceToNat, Int.reduceAdd, Int.reduceSub, Int.reduceMul, reduceCtorEq, decide_true, decide_false, Nat.zero_add, Nat.add_zero, Nat.zero_mul, Nat.sub_zero, Int.toNat_natCast, true_and, and_true, false_and, and_false, ne_eq, not_false_eq_true, not_true_eq_false, beq_self_eq_true, Bool.false_eq_true, Nat.le_refl, Nat.zero_le, hl]
  refine loop_rule (fun m fr σ => ∃ (i : Nat), i ≤ a.length ∧ m = a.length - i ∧ fr = [(0, .lst (ints a)), (1, .lst (ints b)), (5, .i i)] ∧ a.take i = b.take i) _ ⟨0, by omega, rfl, rfl, rfl⟩ ?_
  rintro m fr σ ⟨i, hi, rfl, rfl, ht⟩
  simp only [go_sem, Option.isSome_some, ↓reduceIte, if_true, if_false, Nat.reduceEqDiff, Nat.reduceAdd, Nat.reduceMul, Nat.reduceSub, Nat.reduceLT, Nat.reduceLeDiff, Nat.reduceDiv, Nat.reduceMod, Nat.reduceBEq, Int.reduceNeg, Int.reduceEq, Int.reduceNe, Int.reduceLT, Int.reduceLE, Int.reduceToNat, Int.reduceAdd, Int.reduceSub, Int.reduceMul, reduceCtorEq, decide_true, decide_false, Nat.zero_add, Nat.add_zero, Nat.zero_mul, Nat.sub_zero, Int.toNat_natCast, true_and, and_true, false_and, and_false, ne_eq, not_false_eq_true, not_true_eq_false, beq_self_eq_true, Bool.false_eq_true, Nat.le_refl, Nat.zero_le, hl]
  refine .intro (fun h => ?_) (fun h => ?_)
  · have hia : i < a.length := by omega
    have hib : i < b.length := by omega
    have x1 : (ints a)[i]? = some [.sc (.int .i64 a[i])] := ints_get (List.getElem?_eq_getElem hia)
    have x2 : (ints b)[i]? = some [.sc (.int .i64 b[i])] := ints_get (List.getElem?_eq_getElem hib)
    have n1 : (0 : Int) ≤ i := by omega
    have w4 : IntKind.i64.wrap ((i : Int) + 1) = ((i + 1 : Nat) : Int) := by rw [wrap_id (by omega) (by omega)]; rfl
    have t1 : a.take (i + 1) = a.take i ++ [a[i]] := List.take_succ_eq_append_getElem hia
    have t2 : b.take (i + 1) = b.take i ++ [b[i]] := List.take_succ_eq_append_getElem hib
    generalize ga : a[i] = u at *
    generalize gb : b[i] = v at *
    simp only [go_sem, Option.isSome_some, ↓reduceIte, if_true, if_false, Nat.reduceEqDiff, Nat.reduceAdd, Nat.reduceMul, Nat.reduceSub, Nat.reduceLT, Nat.reduceLeDiff, Nat.reduceDiv, Nat.reduceMod, Nat.reduceBEq, Int.reduceNeg, Int.reduceEq, Int.reduceNe, Int.reduceLT, Int.reduceLE, Int.reduceToNat, Int.reduceAdd, Int.reduceSub, Int.reduceMul, reduceCtorEq, decide_true, decide_false, Nat.zero_add, Nat.add_zero, Nat.zero_mul, Nat.sub_zero, Int.toNat_natCast, true_and, and_true, false_and, and_false, ne_eq, not_false_eq_true, not_true_eq_false, beq_self_eq_true, Bool.false_eq_true, Nat.le_refl, Nat.zero_le]
    unfold op11_17
    simp only [go_sem, Option.isSome_some, ↓reduceIte, if_true, if_false, Nat.reduceEqDiff, Nat.reduceAdd, Nat.reduceMul, Nat.reduceSub, Nat.reduceLT, Nat.reduceLeDiff, Nat.reduceDiv, Nat.reduceMod, Nat.reduceBEq, Int.reduceNeg, Int.reduceEq, Int.reduceNe, Int.reduceLT, Int.reduceLE, Int.reduceToNat, Int.reduceAdd, Int.reduceSub, Int.reduceMul, reduceCtorEq, decide_true, decide_false, Nat.zero_add, Nat.add_zero, Nat.zero_mul, Nat.sub_zero, Int.toNat_natCast, true_and, and_true, false_and, and_false, ne_eq, not_false_eq_true, not_true_eq_false, beq_self_eq_true, Bool.false_eq_true, Nat.le_refl, Nat.zero_le, x1, x2, n1]
    by_cases huv : u = v
    · subst huv
      simp only [go_sem, Option.isSome_some, ↓reduceIte, if_true, if_false, Nat.reduceEqDiff, Nat.reduceAdd, Nat.reduceMul, Nat.reduceSub, Nat.reduceLT, Nat.reduceLeDiff, Nat.reduceDiv, Nat.reduceMod, Nat.reduceBEq, Int.reduceNeg, Int.reduceEq, Int.reduceNe, Int.reduceLT, Int.reduceLE, Int.reduceToNat, Int.reduceAdd, Int.reduceSub, Int.reduceMul, reduceCtorEq, decide_true, decide_false, Nat.zero_add, Nat.add_zero, Nat.zero_mul, Nat.sub_zero, Int.toNat_natCast, true_and, and_true, false_and, and_false, ne_eq, not_false_eq_true, not_true_eq_false, beq_self_eq_true, Bool.false_eq_true, Nat.le_refl, Nat.zero_le, w4]
      exact back_of _ (by omega) ⟨i + 1, by omega, rfl, rfl, by rw [t1, t2, ht]⟩
    · simp only [go_sem, Option.isSome_some, ↓reduceIte, if_true, if_false, Nat.reduceEqDiff, Nat.reduceAdd, Nat.reduceMul, Nat.reduceSub, Nat.reduceLT, Nat.reduceLeDiff, Nat.reduceDiv, Nat.reduceMod, Nat.reduceBEq, Int.reduceNeg, Int.reduceEq, Int.reduceNe, Int.reduceLT, Int.reduceLE, Int.reduceToNat, Int.reduceAdd, Int.reduceSub, Int.reduceMul, reduceCtorEq, decide_true, decide_false, Nat.zero_add, Nat.add_zero, Nat.zero_mul, Nat.sub_zero, Int.toNat_natCast, true_and, and_true, false_and, and_false, ne_eq, not_false_eq_true, not_true_eq_false, beq_self_eq_true, Bool.false_eq_true, Nat.le_refl, Nat.zero_le, huv]
      have e : ¬ a = b := fun e => huv (by subst e; rw [← ga, ← gb])
      rw [decide_eq_false e]
      exact out_sc
  · simp only [go_sem, Option.isSome_some, ↓reduceIte, if_true, if_false, Nat.reduceEqDiff, Nat.reduceAdd, Nat.reduceMul, Nat.reduceSub, Nat.reduceLT, Nat.reduceLeDiff, Nat.reduceDiv, Nat.reduceMod, Nat.reduceBEq, Int.reduceNeg, Int.reduceEq, Int.reduceNe, Int.reduceLT, Int.reduceLE, Int.reduceToNat, Int.reduceAdd, Int.reduceSub, Int.reduceMul, reduceCtorEq, decide_true, decide_false, Nat.zero_add, Nat.add_zero, Nat.zero_mul, Nat.sub_zero, Int.toNat_natCast, true_and, and_true, false_and, and_false, ne_eq, not_false_eq_true, not_true_eq_false, beq_self_eq_true, Bool.false_eq_true, Nat.le_refl, Nat.zero_le]
    have e : a = b := by
      have e1 : i = a.length := by omega
      subst e1
      rw [List.take_length, List.take_of_length_le (by omega)] at ht
      exact ht
    rw [decide_eq_true e]
    exact out_sc
end Go.Proofs
