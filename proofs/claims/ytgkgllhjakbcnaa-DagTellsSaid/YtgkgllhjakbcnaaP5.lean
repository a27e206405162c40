/- A part of the proof: lemmas alone, no statement. -/
import Derived.Test.YtgkgllhjakbcnaaP4
import Derived.Test.YtgkgllhjakbcnaaP2
import Derived.Test.YtgkgllhjakbcnaaP3
set_option linter.unusedVariables false
set_option linter.unusedSimpArgs false
set_option linter.unnecessarySimpa false
set_option linter.unusedSectionVars false
set_option linter.unusedSimpArgs false
set_option linter.unusedVariables false
namespace Go.Proofs
open Go.Ab

def usesCond (g : Gr) (down : List Bool) (a b : List Int) (to : Int) (k : Int) : Bool :=
  !isDown down (k / 2) && (decide (0 ≤ at0 a (g.ends k).1) && (decide (0 ≤ at0 b (g.ends k).2.1) && decide (at0 a (g.ends k).1 + g.metric k + at0 b (g.ends k).2.1 = at0 a to)))
def upto (n : Nat) : List Int := (List.range n).map fun (k : Nat) => (k : Int)
theorem upto_succ (n : Nat) : upto (n + 1) = upto n ++ [(n : Int)] := by simp [upto, List.range_succ]
theorem upto_len (n : Nat) : (upto n).length = n := by simp [upto]
def usesOf (g : Gr) (down : List Bool) (from_ to : Int) : List Int :=
  if refFrom g down from_ = [] ∨ refFrom g down to = [] ∨ at0 (refFrom g down from_) to < 0 then [] else (upto (2 * g.ls.length)).filter (usesCond g down (refFrom g down from_) (refFrom g down to) to)

theorem ref_uses_ok (g : Gr) (down : List Bool) (from_ to : Int) : PGood Try.prog 13 [g.val, .lst (bools down), .i from_, .i to] (.lst (ints (usesOf g down from_ to))) := by
  refine pgood_of_out 2 (good_of_wp isF13 (Nat.le_refl _) ?_)
  unfold ac13
  simp only [go_sem, Option.isSome_some, ↓reduceIte, if_true, if_false, Nat.reduceEqDiff, Nat.reduceAdd, Nat.reduceMul, Nat.reduceSub, Nat.reduceLT, Nat.reduceLeDiff, Nat.reduceDiv, Nat.reduceMod, Nat.reduceBEq, Int.reduceNeg, Int.reduceEq, Int.reduceNe, Int.reduceLT, Int.reduceLE, Int.reduceToNat, Int.reduceAdd, Int.reduceSub, Int.reduceMul, reduceCtorEq, decide_true, decide_false, Nat.zero_add, Nat.add_zero, Nat.zero_mul, Nat.sub_zero, Int.toNat_natCast, true_and, and_true, false_and, and_false, ne_eq, not_false_eq_true, not_true_eq_false, beq_self_eq_true, Bool.false_eq_true, Nat.le_refl, Nat.zero_le, Gr.val]
  intro gid hgid
  simp only [go_sem, Option.isSome_some, ↓reduceIte, if_true, if_false, Nat.reduceEqDiff, Nat.reduceAdd, Nat.reduceMul, Nat.reduceSub, Nat.reduceLT, Nat.reduceLeDiff, Nat.reduceDiv, Nat.reduceMod, Nat.reduceBEq, Int.reduceNeg, Int.reduceEq, Int.reduceNe, Int.reduceLT, Int.reduceLE, Int.reduceToNat, Int.reduceAdd, Int.reduceSub, Int.reduceMul, reduceCtorEq, decide_true, decide_false, Nat.zero_add, Nat.add_zero, Nat.zero_mul, Nat.sub_zero, Int.toNat_natCast, true_and, and_true, false_and, and_false, ne_eq, not_false_eq_true, not_true_eq_false, beq_self_eq_true, Bool.false_eq_true, Nat.le_refl, Nat.zero_le]
  refine good_imm (ref_from_ok g down from_) rfl ?_
  simp only [go_sem, Option.isSome_some, ↓reduceIte, if_true, if_false, Nat.reduceEqDiff, Nat.reduceAdd, Nat.reduceMul, Nat.reduceSub, Nat.reduceLT, Nat.reduceLeDiff, Nat.reduceDiv, Nat.reduceMod, Nat.reduceBEq, Int.reduceNeg, Int.reduceEq, Int.reduceNe, Int.reduceLT, Int.reduceLE, Int.reduceToNat, Int.reduceAdd, Int.reduceSub, Int.reduceMul, reduceCtorEq, decide_true, decide_false, Nat.zero_add, Nat.add_zero, Nat.zero_mul, Nat.sub_zero, Int.toNat_natCast, true_and, and_true, false_and, and_false, ne_eq, not_false_eq_true, not_true_eq_false, beq_self_eq_true, Bool.false_eq_true, Nat.le_refl, Nat.zero_le]
  refine good_imm (ref_from_ok g down to) rfl ?_
  have amild : ∀ x ∈ refFrom g down from_, -1 ≤ x ∧ x ≤ 671088640 := refFrom_mild
  have bmild : ∀ x ∈ refFrom g down to, -1 ≤ x ∧ x ≤ 671088640 := refFrom_mild
  have anil := refFrom_nil (g := g) (down := down) (node := from_)
  have bnil := refFrom_nil (g := g) (down := down) (node := to)
  have hdef : usesOf g down from_ to = if refFrom g down from_ = [] ∨ refFrom g down to = [] ∨ at0 (refFrom g down from_) to < 0 then [] else (upto (2 * g.ls.length)).filter (usesCond g down (refFrom g down from_) (refFrom g down to) to) := rfl
  have alen : g.check.2 = 0 ∧ 0 ≤ from_ ∧ from_ < g.n → (refFrom g down from_).length = g.n.toNat := fun h => (refFrom_dist (g.check_ok.1 h.1) h.2).len
  have blen : g.check.2 = 0 ∧ 0 ≤ to ∧ to < g.n → (refFrom g down to).length = g.n.toNat := fun h => (refFrom_dist (g.check_ok.1 h.1) h.2).len
  generalize refFrom g down from_ = a at *
  generalize refFrom g down to = b at *
  have nil : (a = [] ∨ b = [] ∨ at0 a to < 0) → ∀ σ : Store, Out 2 σ .nils (.lst (ints (usesOf g down from_ to))) := fun h σ => by
    rw [hdef, if_pos h]; exact out_nils
  simp only [go_sem, Option.isSome_some, ↓reduceIte, if_true, if_false, Nat.reduceEqDiff, Nat.reduceAdd, Nat.reduceMul, Nat.reduceSub, Nat.reduceLT, Nat.reduceLeDiff, Nat.reduceDiv, Nat.reduceMod, Nat.reduceBEq, Int.reduceNeg, Int.reduceEq, Int.reduceNe, Int.reduceLT, Int.reduceLE, Int.reduceToNat, Int.reduceAdd, Int.reduceSub, Int.reduceMul, reduceCtorEq, decide_true, decide_false, Nat.zero_add, Nat.add_zero, Nat.zero_mul, Nat.sub_zero, Int.toNat_natCast, true_and, and_true, false_and, and_false, ne_eq, not_false_eq_true, not_true_eq_false, beq_self_eq_true, Bool.false_eq_true, Nat.le_refl, Nat.zero_le]
  by_cases ha : a = []
  · have h0 : (a.length : Int) = 0 := by rw [ha]; rfl
    simp only [go_sem, Option.isSome_some, ↓reduceIte, if_true, if_false, Nat.reduceEqDiff, Nat.reduceAdd, Nat.reduceMul, Nat.reduceSub, Nat.reduceLT, Nat.reduceLeDiff, Nat.reduceDiv, Nat.reduceMod, Nat.reduceBEq, Int.reduceNeg, Int.reduceEq, Int.reduceNe, Int.reduceLT, Int.reduceLE, Int.reduceToNat, Int.reduceAdd, Int.reduceSub, Int.reduceMul, reduceCtorEq, decide_true, decide_false, Nat.zero_add, Nat.add_zero, Nat.zero_mul, Nat.sub_zero, Int.toNat_natCast, true_and, and_true, false_and, and_false, ne_eq, not_false_eq_true, not_true_eq_false, beq_self_eq_true, Bool.false_eq_true, Nat.le_refl, Nat.zero_le, h0]
    exact nil (.inl ha) _
  have h0 : ¬ (a.length : Int) = 0 := fun h => ha (List.eq_nil_of_length_eq_zero (by omega))
  simp only [go_sem, Option.isSome_some, ↓reduceIte, if_true, if_false, Nat.reduceEqDiff, Nat.reduceAdd, Nat.reduceMul, Nat.reduceSub, Nat.reduceLT, Nat.reduceLeDiff, Nat.reduceDiv, Nat.reduceMod, Nat.reduceBEq, Int.reduceNeg, Int.reduceEq, Int.reduceNe, Int.reduceLT, Int.reduceLE, Int.reduceToNat, Int.reduceAdd, Int.reduceSub, Int.reduceMul, reduceCtorEq, decide_true, decide_false, Nat.zero_add, Nat.add_zero, Nat.zero_mul, Nat.sub_zero, Int.toNat_natCast, true_and, and_true, false_and, and_false, ne_eq, not_false_eq_true, not_true_eq_false, beq_self_eq_true, Bool.false_eq_true, Nat.le_refl, Nat.zero_le, h0]
  by_cases hb : b = []
  · have h1 : (b.length : Int) = 0 := by rw [hb]; rfl
    simp only [go_sem, Option.isSome_some, ↓reduceIte, if_true, if_false, Nat.reduceEqDiff, Nat.reduceAdd, Nat.reduceMul, Nat.reduceSub, Nat.reduceLT, Nat.reduceLeDiff, Nat.reduceDiv, Nat.reduceMod, Nat.reduceBEq, Int.reduceNeg, Int.reduceEq, Int.reduceNe, Int.reduceLT, Int.reduceLE, Int.reduceToNat, Int.reduceAdd, Int.reduceSub, Int.reduceMul, reduceCtorEq, decide_true, decide_false, Nat.zero_add, Nat.add_zero, Nat.zero_mul, Nat.sub_zero, Int.toNat_natCast, true_and, and_true, false_and, and_false, ne_eq, not_false_eq_true, not_true_eq_false, beq_self_eq_true, Bool.false_eq_true, Nat.le_refl, Nat.zero_le, h1]
    exact nil (.inr (.inl hb)) _
  have h1 : ¬ (b.length : Int) = 0 := fun h => hb (List.eq_nil_of_length_eq_zero (by omega))
  have ga : g.check.2 = 0 ∧ 0 ≤ from_ ∧ from_ < g.n := Decidable.byContradiction fun h => ha (anil.2 h)
  have gb : g.check.2 = 0 ∧ 0 ≤ to ∧ to < g.n := Decidable.byContradiction fun h => hb (bnil.2 h)
  have al := alen ga
  have bl := blen gb
  obtain ⟨k1, k2, k3, k4⟩ := g.check_ok.1 ga.1
  have hok : g.Ok := ⟨k1, k2, k3, k4⟩
  have hti : to.toNat < a.length := by omega
  have n1 : 0 ≤ to := gb.2.1
  have n2 : to < (a.length : Int) := by omega
  have x1 : (ints a)[to.toNat]? = some [.sc (.int .i64 (at0 a to))] := ints_get (by simp [hti])
  simp only [go_sem, Option.isSome_some, ↓reduceIte, if_true, if_false, Nat.reduceEqDiff, Nat.reduceAdd, Nat.reduceMul, Nat.reduceSub, Nat.reduceLT, Nat.reduceLeDiff, Nat.reduceDiv, Nat.reduceMod, Nat.reduceBEq, Int.reduceNeg, Int.reduceEq, Int.reduceNe, Int.reduceLT, Int.reduceLE, Int.reduceToNat, Int.reduceAdd, Int.reduceSub, Int.reduceMul, reduceCtorEq, decide_true, decide_false, Nat.zero_add, Nat.add_zero, Nat.zero_mul, Nat.sub_zero, Int.toNat_natCast, true_and, and_true, false_and, and_false, ne_eq, not_false_eq_true, not_true_eq_false, beq_self_eq_true, Bool.false_eq_true, Nat.le_refl, Nat.zero_le, h1, n1, n2, x1]
  by_cases hneg : at0 a to < 0
  · simp only [go_sem, Option.isSome_some, ↓reduceIte, if_true, if_false, Nat.reduceEqDiff, Nat.reduceAdd, Nat.reduceMul, Nat.reduceSub, Nat.reduceLT, Nat.reduceLeDiff, Nat.reduceDiv, Nat.reduceMod, Nat.reduceBEq, Int.reduceNeg, Int.reduceEq, Int.reduceNe, Int.reduceLT, Int.reduceLE, Int.reduceToNat, Int.reduceAdd, Int.reduceSub, Int.reduceMul, reduceCtorEq, decide_true, decide_false, Nat.zero_add, Nat.add_zero, Nat.zero_mul, Nat.sub_zero, Int.toNat_natCast, true_and, and_true, false_and, and_false, ne_eq, not_false_eq_true, not_true_eq_false, beq_self_eq_true, Bool.false_eq_true, Nat.le_refl, Nat.zero_le, hneg]
    exact nil (.inr (.inr hneg)) _
  simp only [go_sem, Option.isSome_some, ↓reduceIte, if_true, if_false, Nat.reduceEqDiff, Nat.reduceAdd, Nat.reduceMul, Nat.reduceSub, Nat.reduceLT, Nat.reduceLeDiff, Nat.reduceDiv, Nat.reduceMod, Nat.reduceBEq, Int.reduceNeg, Int.reduceEq, Int.reduceNe, Int.reduceLT, Int.reduceLE, Int.reduceToNat, Int.reduceAdd, Int.reduceSub, Int.reduceMul, reduceCtorEq, decide_true, decide_false, Nat.zero_add, Nat.add_zero, Nat.zero_mul, Nat.sub_zero, Int.toNat_natCast, true_and, and_true, false_and, and_false, ne_eq, not_false_eq_true, not_true_eq_false, beq_self_eq_true, Bool.false_eq_true, Nat.le_refl, Nat.zero_le, hneg]
  have fin : usesOf g down from_ to = (upto (2 * g.ls.length)).filter (usesCond g down a b to) := by rw [hdef, if_neg (fun h => h.elim ha fun h => h.elim hb hneg)]
  have gal : ∀ (o : Ab.Obj), Alive (Store.empty.set gid o) [gid] := fun o => alive_cons (Store.get_set_self _ _ _) alive_nil
  let I : Nat → Fr → Store → Prop := fun m fr σ => ∃ (k : Nat) (v : AVal), k ≤ 2 * g.ls.length ∧ m = 2 * g.ls.length - k ∧ fr = [(1, .lst (bools down)), (3, .i to), (4, .ptr gid 0 0 0), (9, .lst (ints a)), (10, .lst (ints b)), (11, v), (12, .i k)] ∧
    σ.get gid = some (.row 0 false 2 [[.sc (.int .i64 g.n), .lst (g.ls.map Lk.row)]]) ∧ Acc σ 1 v (ints ((upto k).filter (usesCond g down a b to))) [gid]
  refine loop_rule I _ ⟨0, .nils, by omega, rfl, rfl, by simp, acc_nils (gal _)⟩ ?_
  rintro m fr σ ⟨k, v, hk, rfl, rfl, g1, acc⟩
  have w2 : IntKind.i64.wrap (2 * (g.ls.length : Int)) = 2 * g.ls.length := wrap_id (by omega) (by omega)
  simp only [go_sem, Option.isSome_some, ↓reduceIte, if_true, if_false, Nat.reduceEqDiff, Nat.reduceAdd, Nat.reduceMul, Nat.reduceSub, Nat.reduceLT, Nat.reduceLeDiff, Nat.reduceDiv, Nat.reduceMod, Nat.reduceBEq, Int.reduceNeg, Int.reduceEq, Int.reduceNe, Int.reduceLT, Int.reduceLE, Int.reduceToNat, Int.reduceAdd, Int.reduceSub, Int.reduceMul, reduceCtorEq, decide_true, decide_false, Nat.zero_add, Nat.add_zero, Nat.zero_mul, Nat.sub_zero, Int.toNat_natCast, true_and, and_true, false_and, and_false, ne_eq, not_false_eq_true, not_true_eq_false, beq_self_eq_true, Bool.false_eq_true, Nat.le_refl, Nat.zero_le, rowAt_get g1, w2]
  refine .intro (fun hkl => ?_) (fun hkl => ?_)
  · have hkl' : k < 2 * g.ls.length := by omega
    simp only [go_sem, Option.isSome_some, ↓reduceIte, if_true, if_false, Nat.reduceEqDiff, Nat.reduceAdd, Nat.reduceMul, Nat.reduceSub, Nat.reduceLT, Nat.reduceLeDiff, Nat.reduceDiv, Nat.reduceMod, Nat.reduceBEq, Int.reduceNeg, Int.reduceEq, Int.reduceNe, Int.reduceLT, Int.reduceLE, Int.reduceToNat, Int.reduceAdd, Int.reduceSub, Int.reduceMul, reduceCtorEq, decide_true, decide_false, Nat.zero_add, Nat.add_zero, Nat.zero_mul, Nat.sub_zero, Int.toNat_natCast, true_and, and_true, false_and, and_false, ne_eq, not_false_eq_true, not_true_eq_false, beq_self_eq_true, Bool.false_eq_true, Nat.le_refl, Nat.zero_le, rowAt_get g1]
    refine good_imm (rends_ok g k (by omega)) rfl ?_
    simp only [go_sem, Option.isSome_some, ↓reduceIte, if_true, if_false, Nat.reduceEqDiff, Nat.reduceAdd, Nat.reduceMul, Nat.reduceSub, Nat.reduceLT, Nat.reduceLeDiff, Nat.reduceDiv, Nat.reduceMod, Nat.reduceBEq, Int.reduceNeg, Int.reduceEq, Int.reduceNe, Int.reduceLT, Int.reduceLE, Int.reduceToNat, Int.reduceAdd, Int.reduceSub, Int.reduceMul, reduceCtorEq, decide_true, decide_false, Nat.zero_add, Nat.add_zero, Nat.zero_mul, Nat.sub_zero, Int.toNat_natCast, true_and, and_true, false_and, and_false, ne_eq, not_false_eq_true, not_true_eq_false, beq_self_eq_true, Bool.false_eq_true, Nat.le_refl, Nat.zero_le]
    unfold op13_54
    obtain ⟨v1, v2, v3, v4⟩ := g.ends_of hok (e := k) (by omega) (by omega)
    obtain ⟨v5, v6⟩ := g.metric_of hok (e := k) (by omega) (by omega)
    have hq : IntKind.i64.wrap ((k : Int).tdiv 2) = (k : Int) / 2 := by
      rw [Int.tdiv_eq_ediv_of_nonneg (by omega)]
      exact wrap_id (by omega) (by omega)
    have hlt : ((k : Int) / 2).toNat < g.ls.length := by omega
    have x4 : (g.ls.map Lk.row)[((k : Int) / 2).toNat]? = some [.sc (.int .i64 (g.ls[((k : Int) / 2).toNat]).a), .sc (.int .i64 (g.ls[((k : Int) / 2).toNat]).b), .sc (.int .i64 (g.metric k)), .sc (.int .i64 (g.ls[((k : Int) / 2).toNat]).c)] := by
      simp [hlt, Lk.row, Gr.metric]
    have n6 : (0 : Int) ≤ (k : Int) / 2 := by omega
    have w4 : IntKind.i64.wrap ((k : Int) + 1) = ((k + 1 : Nat) : Int) := by rw [wrap_id (by omega) (by omega)]; rfl
    have cond : usesCond g down a b to k = (!isDown down ((k : Int) / 2) && (decide (0 ≤ at0 a (g.ends k).1) && (decide (0 ≤ at0 b (g.ends k).2.1) && decide (at0 a (g.ends k).1 + g.metric k + at0 b (g.ends k).2.1 = at0 a to)))) := rfl
    have step : (upto (k + 1)).filter (usesCond g down a b to) = (upto k).filter (usesCond g down a b to) ++ (if usesCond g down a b to k then [(k : Int)] else []) := by
      rw [upto_succ, List.filter_append]
      congr 1
      simp [List.filter_cons]
    generalize hx : (g.ends k).1 = x at *
    generalize hy : (g.ends k).2.1 = y at *
    have hxi : x.toNat < a.length := by omega
    have hyi : y.toNat < b.length := by omega
    have x2 : (ints a)[x.toNat]? = some [.sc (.int .i64 (at0 a x))] := ints_get (by simp [hxi])
    have x3 : (ints b)[y.toNat]? = some [.sc (.int .i64 (at0 b y))] := ints_get (by simp [hyi])
    have m1 : -1 ≤ at0 a x ∧ at0 a x ≤ 671088640 := amild _ (by simp [hxi])
    have m2 : -1 ≤ at0 b y ∧ at0 b y ≤ 671088640 := bmild _ (by simp [hyi])
    have l1 : x < (a.length : Int) := by omega
    have l2 : y < (b.length : Int) := by omega
    have p1 := v1.1
    have p2 := v2.1
    have w5 : IntKind.i64.wrap (at0 a x + g.metric k) = at0 a x + g.metric k := wrap_id (by omega) (by omega)
    have w6 : IntKind.i64.wrap (at0 a x + g.metric k + at0 b y) = at0 a x + g.metric k + at0 b y := wrap_id (by omega) (by omega)
    have same : usesCond g down a b to k = false → Back I (2 * g.ls.length - k) [(1, .lst (bools down)), (3, .i to), (4, .ptr gid 0 0 0), (9, .lst (ints a)), (10, .lst (ints b)), (11, v), (12, .i ((k + 1 : Nat) : Int))] σ := fun hne => by
      refine back_of (2 * g.ls.length - (k + 1)) (by omega) ⟨k + 1, v, by omega, rfl, rfl, g1, ?_⟩
      rw [step, hne]
      simpa using acc
    simp only [go_sem, Option.isSome_some, ↓reduceIte, if_true, if_false, Nat.reduceEqDiff, Nat.reduceAdd, Nat.reduceMul, Nat.reduceSub, Nat.reduceLT, Nat.reduceLeDiff, Nat.reduceDiv, Nat.reduceMod, Nat.reduceBEq, Int.reduceNeg, Int.reduceEq, Int.reduceNe, Int.reduceLT, Int.reduceLE, Int.reduceToNat, Int.reduceAdd, Int.reduceSub, Int.reduceMul, reduceCtorEq, decide_true, decide_false, Nat.zero_add, Nat.add_zero, Nat.zero_mul, Nat.sub_zero, Int.toNat_natCast, true_and, and_true, false_and, and_false, ne_eq, not_false_eq_true, not_true_eq_false, beq_self_eq_true, Bool.false_eq_true, Nat.le_refl, Nat.zero_le, hq]
    refine goodD_imm (isdown_ok down ((k : Int) / 2)) rfl ?_
    simp only [go_sem, Option.isSome_some, ↓reduceIte, if_true, if_false, Nat.reduceEqDiff, Nat.reduceAdd, Nat.reduceMul, Nat.reduceSub, Nat.reduceLT, Nat.reduceLeDiff, Nat.reduceDiv, Nat.reduceMod, Nat.reduceBEq, Int.reduceNeg, Int.reduceEq, Int.reduceNe, Int.reduceLT, Int.reduceLE, Int.reduceToNat, Int.reduceAdd, Int.reduceSub, Int.reduceMul, reduceCtorEq, decide_true, decide_false, Nat.zero_add, Nat.add_zero, Nat.zero_mul, Nat.sub_zero, Int.toNat_natCast, true_and, and_true, false_and, and_false, ne_eq, not_false_eq_true, not_true_eq_false, beq_self_eq_true, Bool.false_eq_true, Nat.le_refl, Nat.zero_le]
    cases q0 : isDown down ((k : Int) / 2) with
    | true =>
      simp only [go_sem, Option.isSome_some, ↓reduceIte, if_true, if_false, Nat.reduceEqDiff, Nat.reduceAdd, Nat.reduceMul, Nat.reduceSub, Nat.reduceLT, Nat.reduceLeDiff, Nat.reduceDiv, Nat.reduceMod, Nat.reduceBEq, Int.reduceNeg, Int.reduceEq, Int.reduceNe, Int.reduceLT, Int.reduceLE, Int.reduceToNat, Int.reduceAdd, Int.reduceSub, Int.reduceMul, reduceCtorEq, decide_true, decide_false, Nat.zero_add, Nat.add_zero, Nat.zero_mul, Nat.sub_zero, Int.toNat_natCast, true_and, and_true, false_and, and_false, ne_eq, not_false_eq_true, not_true_eq_false, beq_self_eq_true, Bool.false_eq_true, Nat.le_refl, Nat.zero_le, w4]
      exact same (by rw [cond, q0]; rfl)
    | false =>
      simp only [go_sem, Option.isSome_some, ↓reduceIte, if_true, if_false, Nat.reduceEqDiff, Nat.reduceAdd, Nat.reduceMul, Nat.reduceSub, Nat.reduceLT, Nat.reduceLeDiff, Nat.reduceDiv, Nat.reduceMod, Nat.reduceBEq, Int.reduceNeg, Int.reduceEq, Int.reduceNe, Int.reduceLT, Int.reduceLE, Int.reduceToNat, Int.reduceAdd, Int.reduceSub, Int.reduceMul, reduceCtorEq, decide_true, decide_false, Nat.zero_add, Nat.add_zero, Nat.zero_mul, Nat.sub_zero, Int.toNat_natCast, true_and, and_true, false_and, and_false, ne_eq, not_false_eq_true, not_true_eq_false, beq_self_eq_true, Bool.false_eq_true, Nat.le_refl, Nat.zero_le, p1, l1, x2]
      by_cases q1 : 0 ≤ at0 a x
      · simp only [go_sem, Option.isSome_some, ↓reduceIte, if_true, if_false, Nat.reduceEqDiff, Nat.reduceAdd, Nat.reduceMul, Nat.reduceSub, Nat.reduceLT, Nat.reduceLeDiff, Nat.reduceDiv, Nat.reduceMod, Nat.reduceBEq, Int.reduceNeg, Int.reduceEq, Int.reduceNe, Int.reduceLT, Int.reduceLE, Int.reduceToNat, Int.reduceAdd, Int.reduceSub, Int.reduceMul, reduceCtorEq, decide_true, decide_false, Nat.zero_add, Nat.add_zero, Nat.zero_mul, Nat.sub_zero, Int.toNat_natCast, true_and, and_true, false_and, and_false, ne_eq, not_false_eq_true, not_true_eq_false, beq_self_eq_true, Bool.false_eq_true, Nat.le_refl, Nat.zero_le, q1, p2, l2, x3]
        by_cases q2 : 0 ≤ at0 b y
        · simp only [go_sem, Option.isSome_some, ↓reduceIte, if_true, if_false, Nat.reduceEqDiff, Nat.reduceAdd, Nat.reduceMul, Nat.reduceSub, Nat.reduceLT, Nat.reduceLeDiff, Nat.reduceDiv, Nat.reduceMod, Nat.reduceBEq, Int.reduceNeg, Int.reduceEq, Int.reduceNe, Int.reduceLT, Int.reduceLE, Int.reduceToNat, Int.reduceAdd, Int.reduceSub, Int.reduceMul, reduceCtorEq, decide_true, decide_false, Nat.zero_add, Nat.add_zero, Nat.zero_mul, Nat.sub_zero, Int.toNat_natCast, true_and, and_true, false_and, and_false, ne_eq, not_false_eq_true, not_true_eq_false, beq_self_eq_true, Bool.false_eq_true, Nat.le_refl, Nat.zero_le, q2, p1, l1, x2, p2, l2, x3, rowAt_get g1, hq, n6, x4, w5, w6, n1, n2, x1]
          by_cases q3 : at0 a x + g.metric k + at0 b y = at0 a to
          · simp only [go_sem, Option.isSome_some, ↓reduceIte, if_true, if_false, Nat.reduceEqDiff, Nat.reduceAdd, Nat.reduceMul, Nat.reduceSub, Nat.reduceLT, Nat.reduceLeDiff, Nat.reduceDiv, Nat.reduceMod, Nat.reduceBEq, Int.reduceNeg, Int.reduceEq, Int.reduceNe, Int.reduceLT, Int.reduceLE, Int.reduceToNat, Int.reduceAdd, Int.reduceSub, Int.reduceMul, reduceCtorEq, decide_true, decide_false, Nat.zero_add, Nat.add_zero, Nat.zero_mul, Nat.sub_zero, Int.toNat_natCast, true_and, and_true, false_and, and_false, ne_eq, not_false_eq_true, not_true_eq_false, beq_self_eq_true, Bool.false_eq_true, Nat.le_refl, Nat.zero_le, q3]
            have ct : usesCond g down a b to k = true := by rw [cond, q0, decide_eq_true q1, decide_eq_true q2, decide_eq_true q3]; rfl
            intro id2 hid2
            simp only [go_sem, Option.isSome_some, ↓reduceIte, if_true, if_false, Nat.reduceEqDiff, Nat.reduceAdd, Nat.reduceMul, Nat.reduceSub, Nat.reduceLT, Nat.reduceLeDiff, Nat.reduceDiv, Nat.reduceMod, Nat.reduceBEq, Int.reduceNeg, Int.reduceEq, Int.reduceNe, Int.reduceLT, Int.reduceLE, Int.reduceToNat, Int.reduceAdd, Int.reduceSub, Int.reduceMul, reduceCtorEq, decide_true, decide_false, Nat.zero_add, Nat.add_zero, Nat.zero_mul, Nat.sub_zero, Int.toNat_natCast, true_and, and_true, false_and, and_false, ne_eq, not_false_eq_true, not_true_eq_false, beq_self_eq_true, Bool.false_eq_true, Nat.le_refl, Nat.zero_le]
            have hlenf := List.length_filter_le (usesCond g down a b to) (upto k)
            rw [upto_len] at hlenf
            refine acc_append (acc.fresh hid2 _) (by simp only [ints_len, List.length_cons, List.length_nil]; omega) (by simp only [ints_len, List.length_cons, List.length_nil]; omega) fun v' σ' k1 k2 => ?_
            simp only [go_sem, Option.isSome_some, ↓reduceIte, if_true, if_false, Nat.reduceEqDiff, Nat.reduceAdd, Nat.reduceMul, Nat.reduceSub, Nat.reduceLT, Nat.reduceLeDiff, Nat.reduceDiv, Nat.reduceMod, Nat.reduceBEq, Int.reduceNeg, Int.reduceEq, Int.reduceNe, Int.reduceLT, Int.reduceLE, Int.reduceToNat, Int.reduceAdd, Int.reduceSub, Int.reduceMul, reduceCtorEq, decide_true, decide_false, Nat.zero_add, Nat.add_zero, Nat.zero_mul, Nat.sub_zero, Int.toNat_natCast, true_and, and_true, false_and, and_false, ne_eq, not_false_eq_true, not_true_eq_false, beq_self_eq_true, Bool.false_eq_true, Nat.le_refl, Nat.zero_le, w4]
            refine back_of _ ?_ ⟨k + 1, v', by omega, rfl, rfl, ?_, ?_⟩
            · omega
            · rw [k2 gid (by simp), get_fresh hid2 (by rw [g1]; rfl), g1]
            · rw [step, ct, if_pos rfl, ints_app]
              exact k1.less (by simp)
          · simp only [go_sem, Option.isSome_some, ↓reduceIte, if_true, if_false, Nat.reduceEqDiff, Nat.reduceAdd, Nat.reduceMul, Nat.reduceSub, Nat.reduceLT, Nat.reduceLeDiff, Nat.reduceDiv, Nat.reduceMod, Nat.reduceBEq, Int.reduceNeg, Int.reduceEq, Int.reduceNe, Int.reduceLT, Int.reduceLE, Int.reduceToNat, Int.reduceAdd, Int.reduceSub, Int.reduceMul, reduceCtorEq, decide_true, decide_false, Nat.zero_add, Nat.add_zero, Nat.zero_mul, Nat.sub_zero, Int.toNat_natCast, true_and, and_true, false_and, and_false, ne_eq, not_false_eq_true, not_true_eq_false, beq_self_eq_true, Bool.false_eq_true, Nat.le_refl, Nat.zero_le, q3, w4]
            exact same (by rw [cond, decide_eq_false q3]; simp)
        · simp only [go_sem, Option.isSome_some, ↓reduceIte, if_true, if_false, Nat.reduceEqDiff, Nat.reduceAdd, Nat.reduceMul, Nat.reduceSub, Nat.reduceLT, Nat.reduceLeDiff, Nat.reduceDiv, Nat.reduceMod, Nat.reduceBEq, Int.reduceNeg, Int.reduceEq, Int.reduceNe, Int.reduceLT, Int.reduceLE, Int.reduceToNat, Int.reduceAdd, Int.reduceSub, Int.reduceMul, reduceCtorEq, decide_true, decide_false, Nat.zero_add, Nat.add_zero, Nat.zero_mul, Nat.sub_zero, Int.toNat_natCast, true_and, and_true, false_and, and_false, ne_eq, not_false_eq_true, not_true_eq_false, beq_self_eq_true, Bool.false_eq_true, Nat.le_refl, Nat.zero_le, q2, w4]
          exact same (by rw [cond, decide_eq_false q2]; simp)
      · simp only [go_sem, Option.isSome_some, ↓reduceIte, if_true, if_false, Nat.reduceEqDiff, Nat.reduceAdd, Nat.reduceMul, Nat.reduceSub, Nat.reduceLT, Nat.reduceLeDiff, Nat.reduceDiv, Nat.reduceMod, Nat.reduceBEq, Int.reduceNeg, Int.reduceEq, Int.reduceNe, Int.reduceLT, Int.reduceLE, Int.reduceToNat, Int.reduceAdd, Int.reduceSub, Int.reduceMul, reduceCtorEq, decide_true, decide_false, Nat.zero_add, Nat.add_zero, Nat.zero_mul, Nat.sub_zero, Int.toNat_natCast, true_and, and_true, false_and, and_false, ne_eq, not_false_eq_true, not_true_eq_false, beq_self_eq_true, Bool.false_eq_true, Nat.le_refl, Nat.zero_le, q1, w4]
        exact same (by rw [cond, decide_eq_false q1]; simp)
  · simp only [go_sem, Option.isSome_some, ↓reduceIte, if_true, if_false, Nat.reduceEqDiff, Nat.reduceAdd, Nat.reduceMul, Nat.reduceSub, Nat.reduceLT, Nat.reduceLeDiff, Nat.reduceDiv, Nat.reduceMod, Nat.reduceBEq, Int.reduceNeg, Int.reduceEq, Int.reduceNe, Int.reduceLT, Int.reduceLE, Int.reduceToNat, Int.reduceAdd, Int.reduceSub, Int.reduceMul, reduceCtorEq, decide_true, decide_false, Nat.zero_add, Nat.add_zero, Nat.zero_mul, Nat.sub_zero, Int.toNat_natCast, true_and, and_true, false_and, and_false, ne_eq, not_false_eq_true, not_true_eq_false, beq_self_eq_true, Bool.false_eq_true, Nat.le_refl, Nat.zero_le]
    have e : k = 2 * g.ls.length := by omega
    subst e
    rw [fin]
    exact acc_out acc (ints_sc _)
end Go.Proofs

set_option linter.unusedSimpArgs false
set_option linter.unusedVariables false
namespace Go.Proofs
open Go.Ab

/-! ### The reference's counts -/
def cutS (x : Int) : Int := if x < 0 then 0 else if 1099511627776 < x then 1099511627776 else x
def fewStep (F : Int → Int) (g : Gr) (s : Bool × Int) (e : Int) : Bool × Int := (false, if s.1 = true ∨ F (g.ends e).2.1 + 1 < s.2 then F (g.ends e).2.1 + 1 else s.2)
def manyStep (M : Int → Int) (g : Gr) (s : Int) (e : Int) : Int := if s < M (g.ends e).2.1 + 1 then M (g.ends e).2.1 + 1 else s
def waysStep (P : Int → Int) (g : Gr) (s : Int) (e : Int) : Int := cutS (s + P (g.ends e).2.1)
structure IsCnt (g : Gr) (down : List Bool) (d : List Int) (P F M : Int → Int) : Prop where
  zero : ∀ v, 0 ≤ v → v < g.n → at0 d v = 0 → P v = 1 ∧ F v = 0 ∧ M v = 0
  p : ∀ v, 0 ≤ v → v < g.n → 0 < at0 d v → P v = (nextOf g down d v).foldl (waysStep P g) 0
  f : ∀ v, 0 ≤ v → v < g.n → 0 < at0 d v → F v = ((nextOf g down d v).foldl (fewStep F g) (true, 0)).2
  m : ∀ v, 0 ≤ v → v < g.n → 0 < at0 d v → M v = (nextOf g down d v).foldl (manyStep M g) 0
  bp : ∀ v, 0 ≤ v → v < g.n → 0 ≤ at0 d v → 0 ≤ P v ∧ P v ≤ 1099511627776
  bf : ∀ v, 0 ≤ v → v < g.n → 0 ≤ at0 d v → 0 ≤ F v ∧ F v ≤ at0 d v
  bm : ∀ v, 0 ≤ v → v < g.n → 0 ≤ at0 d v → 0 ≤ M v ∧ M v ≤ at0 d v

/-- Three lists: of each node up to this distance nothing yet, or all. -/
def CntInv (g : Gr) (d : List Int) (P F M : Int → Int) (D : Int) (k f m : List Int) : Prop :=
  ∀ v, 0 ≤ v → v < g.n → 0 ≤ at0 d v → at0 d v ≤ D → (at0 k v = -1 ∧ at0 f v = 0 ∧ at0 m v = 0) ∨ (at0 k v = P v ∧ at0 f v = F v ∧ at0 m v = M v)
structure CntPost (g : Gr) (d : List Int) (P F M : Int → Int) (D node : Int) (k f m k' f' m' : List Int) : Prop where
  inv : CntInv g d P F M D k' f' m'
  done : at0 k' node = P node ∧ at0 f' node = F node ∧ at0 m' node = M node
  keep : ∀ v, 0 ≤ v → v < g.n → ¬ (0 ≤ at0 d v ∧ at0 d v ≤ D) → at0 k' v = at0 k v ∧ at0 f' v = at0 f v ∧ at0 m' v = at0 m v
  stay : ∀ v, 0 ≤ v → v < g.n → 0 ≤ at0 d v → at0 d v ≤ D → at0 k v = P v → at0 k' v = P v ∧ at0 f' v = F v ∧ at0 m' v = M v
end Go.Proofs

set_option linter.unusedSimpArgs false
set_option linter.unusedVariables false
namespace Go.Proofs
open Go.Ab

theorem nextOf_mem {g : Gr} (hg : g.Ok) {down : List Bool} {d : List Int} {v e : Int} (h : e ∈ nextOf g down d v) :
    (0 ≤ e ∧ e < 2 * (g.ls.length : Int)) ∧ (g.ends e).1 = v ∧ (0 ≤ (g.ends e).2.1 ∧ (g.ends e).2.1 < g.n) ∧ 0 ≤ at0 d (g.ends e).2.1 ∧ at0 d v = at0 d (g.ends e).2.1 + g.metric e ∧ 1 ≤ g.metric e ∧ isUp down e = true := by
  unfold nextOf at h
  split at h
  · rw [List.mem_filter] at h
    obtain ⟨h1, h2⟩ := h
    obtain ⟨e1, e2, e3⟩ := g.mem_out h1
    obtain ⟨v1, v2, _⟩ := g.ends_of hg e1 e2
    obtain ⟨m1, _⟩ := g.metric_of hg e1 e2
    unfold nextCond at h2
    rw [Bool.and_eq_true, Bool.and_eq_true] at h2
    exact ⟨⟨e1, e2⟩, e3, v2, of_decide_eq_true h2.2.1, of_decide_eq_true h2.2.2, m1, h2.1⟩
  · cases h

structure CntMid (g : Gr) (d : List Int) (P F M : Int → Int) (D node n : Int) (l : List Int) (k0 f0 m0 k f m : List Int) : Prop where
  low : CntInv g d P F M (D - 1) k f m
  high : ∀ v, 0 ≤ v → v < g.n → ¬ (0 ≤ at0 d v ∧ at0 d v ≤ D - 1) → v ≠ node → at0 k v = at0 k0 v ∧ at0 f v = at0 f0 v ∧ at0 m v = at0 m0 v
  kn : at0 k node = -1
  fn : at0 f node = (l.foldl (fewStep F g) (true, 0)).2
  mn : at0 m node = l.foldl (manyStep M g) 0
  nn : n = l.foldl (waysStep P g) 0
  stay : ∀ v, 0 ≤ v → v < g.n → 0 ≤ at0 d v → at0 d v ≤ D - 1 → at0 k0 v = P v → at0 k v = P v ∧ at0 f v = F v ∧ at0 m v = M v

theorem few_flag (F : Int → Int) (g : Gr) : ∀ (l : List Int), (l.foldl (fewStep F g) (true, 0)).1 = decide (l = []) := by
  intro l
  rcases List.eq_nil_or_concat l with h | ⟨r, x, h⟩
  · subst h; rfl
  · subst h
    rw [List.concat_eq_append, List.foldl_append]
    simp [fewStep]
theorem mem_at0 {l : List Int} {v n : Int} (hl : l.length = n.toNat) (h0 : 0 ≤ v) (h1 : v < n) : (ints l)[v.toNat]? = some [.sc (.int .i64 (at0 l v))] := by
  have : v.toNat < l.length := by omega
  exact ints_get (by simp [this])

theorem ways_bound (P : Int → Int) (g : Gr) : ∀ (l : List Int) (s : Int), 0 ≤ s ∧ s ≤ 1099511627776 → 0 ≤ l.foldl (waysStep P g) s ∧ l.foldl (waysStep P g) s ≤ 1099511627776
  | [], s, h => h
  | e :: r, s, h => by
    rw [List.foldl_cons]
    refine ways_bound P g r _ ?_
    unfold waysStep cutS
    split
    · omega
    · split <;> omega
theorem mild_at {d : List Int} (hm : Mild d) {n v : Int} (hl : d.length = n.toNat) (h0 : 0 ≤ v) (h1 : v < n) : at0 d v ≤ 1000000000000 := by
  have : v.toNat < d.length := by omega
  exact (hm _ (by simp [this])).2
theorem wrapS_add {a b : Int} (h0 : 0 ≤ a ∧ a ≤ 1099511627776) (h1 : 0 ≤ b ∧ b ≤ 1099511627776) : IntKind.i64.wrap (a + b) = a + b := wrap_id (by omega) (by omega)
theorem lt_toNat {b n : Int} (h0 : 0 ≤ b) (h1 : b < n) : b < (n.toNat : Int) := by omega
theorem nat_eq0 (i : Nat) : ((i : Int) = 0) = (i = 0) := by apply propext; constructor <;> intro h <;> omega
theorem le_mild {a b : Int} (h0 : a ≤ b) (h1 : b ≤ 1000000000000) : a ≤ 1099511627776 := by omega
theorem mild_lt {a b : Int} (h : a ≤ b) (h1 : b ≤ 1000000000000) (h0 : 0 ≤ a) : IntKind.i64.wrap (a + 1) = a + 1 := wrap_id (by omega) (by omega)
theorem toNat_lt' {b n : Int} {k : Nat} (hk : k = n.toNat) (h0 : 0 ≤ b) (h1 : b < n) : b.toNat < k := by omega
theorem mid_step {g : Gr} {down : List Bool} {d : List Int} {P F M : Int → Int} (hc : IsCnt g down d P F M) {node : Int} (h0 : 0 ≤ node) (h1 : node < g.n) (h2 : 0 ≤ at0 d node) {n : Int} {l k f m k2 f2 m2 k3 f3 m3 f4 m4 : List Int} {e b : Int} {c : Prop} [Decidable c]
    (mid : CntMid g d P F M (at0 d node) node n l k f m k2 f2 m2) (post : CntPost g d P F M (at0 d b) b k2 f2 m2 k3 f3 m3) (hb : (g.ends e).2.1 = b) (e4 : 0 ≤ b ∧ b < g.n) (e5 : 0 ≤ at0 d b) (e6 : at0 d node = at0 d b + g.metric e) (e7 : 1 ≤ g.metric e)
    (z7 : at0 f4 node = if c ∨ F b + 1 < at0 f2 node then F b + 1 else at0 f2 node) (z8 : at0 m4 node = if at0 m2 node < M b + 1 then M b + 1 else at0 m2 node) (z9 : ∀ v, 0 ≤ v → v ≠ node → at0 f4 v = at0 f3 v) (z10 : ∀ v, 0 ≤ v → v ≠ node → at0 m4 v = at0 m3 v)
    (hflag : ((l.foldl (fewStep F g) (true, 0)).1 = true) ↔ c) : CntMid g d P F M (at0 d node) node (cutS (n + P b)) (l ++ [e]) k f m k3 f4 m4 := by
  have hlt : at0 d b < at0 d node := by omega
  have hne : ¬ (0 ≤ at0 d node ∧ at0 d node ≤ at0 d b) := by omega
  obtain ⟨r1, r2, r3⟩ := post.keep node h0 h1 hne
  have hle : at0 d b ≤ at0 d node - 1 := by omega
  have hn1 : ∀ v, at0 d v ≤ at0 d node - 1 → v ≠ node := fun v hv e => by rw [e] at hv; omega
  refine ⟨fun v v0 v1 v2 v3 => ?_, fun v v0 v1 v2 v3 => ?_, ?_, ?_, ?_, ?_, fun v v0 v1 v2 v3 hp => ?_⟩
  · rw [z9 v v0 (hn1 v v3), z10 v v0 (hn1 v v3)]
    by_cases hv : at0 d v ≤ at0 d b
    · exact post.inv v v0 v1 v2 hv
    · obtain ⟨s1, s2, s3⟩ := post.keep v v0 v1 (fun h => hv h.2)
      rw [s1, s2, s3]
      exact mid.low v v0 v1 v2 v3
  · rw [z9 v v0 v3, z10 v v0 v3]
    obtain ⟨s1, s2, s3⟩ := post.keep v v0 v1 (fun h => v2 ⟨h.1, Int.le_trans h.2 hle⟩)
    rw [s1, s2, s3]
    exact mid.high v v0 v1 v2 v3
  · rw [r1]; exact mid.kn
  · rw [z7, List.foldl_append]
    simp only [List.foldl_cons, List.foldl_nil, fewStep, hb, hflag, ← mid.fn]
  · rw [z8, List.foldl_append]
    simp only [List.foldl_cons, List.foldl_nil, manyStep, hb, ← mid.mn]
  · rw [List.foldl_append, mid.nn]
    simp only [List.foldl_cons, List.foldl_nil, waysStep, hb]
  · rw [z9 v v0 (hn1 v v3), z10 v v0 (hn1 v v3)]
    obtain ⟨u1, u2, u3⟩ := mid.stay v v0 v1 v2 v3 hp
    by_cases hv : at0 d v ≤ at0 d b
    · exact post.stay v v0 v1 v2 hv u1
    · obtain ⟨s1, s2, s3⟩ := post.keep v v0 v1 (fun h => hv h.2)
      rw [s1, s2, s3]
      exact ⟨u1, u2, u3⟩
set_option maxHeartbeats 400000 in
theorem counts_ok (g : Gr) (hg : g.Ok) (down : List Bool) (d : List Int) (hdl : d.length = g.n.toNat) (hm : Mild d) (P F M : Int → Int) (hc : IsCnt g down d P F M) :
    ∀ (N : Nat) (node : Int), 0 ≤ node → node < g.n → 0 ≤ at0 d node → at0 d node < N → ∀ (σ : Store) (k f m : List Int) (ik jf im : Nat), ik ≠ jf → ik ≠ im → jf ≠ im →
      σ.get ik = some (.row 0 false 1 (ints k)) → σ.get jf = some (.row 0 false 1 (ints f)) → σ.get im = some (.row 0 false 1 (ints m)) → k.length = g.n.toNat → f.length = g.n.toNat → m.length = g.n.toNat →
      CntInv g d P F M (at0 d node) k f m →
      Ab.Good Try.prog 20 [g.val, .lst (bools down), .lst (ints d), .i node, .sl ik 0 0 g.n.toNat 1, .sl jf 0 0 g.n.toNat 1, .sl im 0 0 g.n.toNat 1] σ (fun r σ' => ∃ k' f' m', σ'.get ik = some (.row 0 false 1 (ints k')) ∧ σ'.get jf = some (.row 0 false 1 (ints f')) ∧ σ'.get im = some (.row 0 false 1 (ints m')) ∧
        k'.length = g.n.toNat ∧ f'.length = g.n.toNat ∧ m'.length = g.n.toNat ∧ CntPost g d P F M (at0 d node) node k f m k' f' m' ∧ ∀ j o, σ.get j = some o → j ≠ ik → j ≠ jf → j ≠ im → σ'.get j = some o) := by
  intro N
  induction N with
  | zero => intro node h0 h1 h2 h3; omega
  | succ N ih =>
    intro node h0 h1 h2 h3 σ k f m ik jf im d1 d2 d3 gk gf gm lk lf lm hinv
    refine good_of_wp isF20 (Nat.le_refl _) ?_
    unfold ac20
    simp only [go_sem, Option.isSome_some, ↓reduceIte, if_true, if_false, Nat.reduceEqDiff, Nat.reduceAdd, Nat.reduceMul, Nat.reduceSub, Nat.reduceLT, Nat.reduceLeDiff, Nat.reduceDiv, Nat.reduceMod, Nat.reduceBEq, Int.reduceNeg, Int.reduceEq, Int.reduceNe, Int.reduceLT, Int.reduceLE, Int.reduceToNat, Int.reduceAdd, Int.reduceSub, Int.reduceMul, reduceCtorEq, decide_true, decide_false, Nat.zero_add, Nat.add_zero, Nat.zero_mul, Nat.sub_zero, Int.toNat_natCast, true_and, and_true, false_and, and_false, ne_eq, not_false_eq_true, not_true_eq_false, beq_self_eq_true, Bool.false_eq_true, Nat.le_refl, Nat.zero_le, Gr.val]
    intro gid hgid
    have q1 : ik ≠ gid := fun e => by rw [e, hgid] at gk; cases gk
    have q2 : jf ≠ gid := fun e => by rw [e, hgid] at gf; cases gf
    have q3 : im ≠ gid := fun e => by rw [e, hgid] at gm; cases gm
    have l1 : node < (g.n.toNat : Int) := by omega
    have x1 := mem_at0 lk h0 h1
    have x2 := mem_at0 hdl h0 h1
    have n2 : node < (d.length : Int) := by omega
    simp only [go_sem, Option.isSome_some, ↓reduceIte, if_true, if_false, Nat.reduceEqDiff, Nat.reduceAdd, Nat.reduceMul, Nat.reduceSub, Nat.reduceLT, Nat.reduceLeDiff, Nat.reduceDiv, Nat.reduceMod, Nat.reduceBEq, Int.reduceNeg, Int.reduceEq, Int.reduceNe, Int.reduceLT, Int.reduceLE, Int.reduceToNat, Int.reduceAdd, Int.reduceSub, Int.reduceMul, reduceCtorEq, decide_true, decide_false, Nat.zero_add, Nat.add_zero, Nat.zero_mul, Nat.sub_zero, Int.toNat_natCast, true_and, and_true, false_and, and_false, ne_eq, not_false_eq_true, not_true_eq_false, beq_self_eq_true, Bool.false_eq_true, Nat.le_refl, Nat.zero_le, h0, l1, rowAt_ne q1, rowAt_get gk, x1]
    by_cases hk : 0 ≤ at0 k node
    · simp only [go_sem, Option.isSome_some, ↓reduceIte, if_true, if_false, Nat.reduceEqDiff, Nat.reduceAdd, Nat.reduceMul, Nat.reduceSub, Nat.reduceLT, Nat.reduceLeDiff, Nat.reduceDiv, Nat.reduceMod, Nat.reduceBEq, Int.reduceNeg, Int.reduceEq, Int.reduceNe, Int.reduceLT, Int.reduceLE, Int.reduceToNat, Int.reduceAdd, Int.reduceSub, Int.reduceMul, reduceCtorEq, decide_true, decide_false, Nat.zero_add, Nat.add_zero, Nat.zero_mul, Nat.sub_zero, Int.toNat_natCast, true_and, and_true, false_and, and_false, ne_eq, not_false_eq_true, not_true_eq_false, beq_self_eq_true, Bool.false_eq_true, Nat.le_refl, Nat.zero_le, hk]
      have hd : at0 k node = P node ∧ at0 f node = F node ∧ at0 m node = M node := by
        rcases hinv node h0 h1 h2 (Int.le_refl _) with h | h
        · omega
        · exact h
      refine ⟨k, f, m, by rw [Store.get_set_ne _ _ q1, gk], by rw [Store.get_set_ne _ _ q2, gf], by rw [Store.get_set_ne _ _ q3, gm], lk, lf, lm, ⟨hinv, hd, fun v _ _ _ => ⟨rfl, rfl, rfl⟩, fun v v0 v1 v2 v3 hp => ?_⟩, fun j o hj _ _ _ => ?_⟩
      · rcases hinv v v0 v1 v2 v3 with h | h
        · have := (hc.bp v v0 v1 v2).1; omega
        · exact h
      · rw [get_fresh hgid (by rw [hj]; rfl), hj]
    simp only [go_sem, Option.isSome_some, ↓reduceIte, if_true, if_false, Nat.reduceEqDiff, Nat.reduceAdd, Nat.reduceMul, Nat.reduceSub, Nat.reduceLT, Nat.reduceLeDiff, Nat.reduceDiv, Nat.reduceMod, Nat.reduceBEq, Int.reduceNeg, Int.reduceEq, Int.reduceNe, Int.reduceLT, Int.reduceLE, Int.reduceToNat, Int.reduceAdd, Int.reduceSub, Int.reduceMul, reduceCtorEq, decide_true, decide_false, Nat.zero_add, Nat.add_zero, Nat.zero_mul, Nat.sub_zero, Int.toNat_natCast, true_and, and_true, false_and, and_false, ne_eq, not_false_eq_true, not_true_eq_false, beq_self_eq_true, Bool.false_eq_true, Nat.le_refl, Nat.zero_le, hk, n2, x2]
    have hk1 : at0 k node = -1 ∧ at0 f node = 0 ∧ at0 m node = 0 := by
      rcases hinv node h0 h1 h2 (Int.le_refl _) with h | h
      · exact h
      · have := (hc.bp node h0 h1 h2).1; omega
    have others : ∀ (τ : Store) (o : Ab.Obj), (∀ j p, σ.get j = some p → j ≠ ik → j ≠ jf → j ≠ im → τ.get j = some p) → ∀ j p, σ.get j = some p → j ≠ ik → j ≠ jf → j ≠ im → (τ.set ik o).get j = some p := fun τ o h j p hj a b c => by
      rw [Store.get_set_ne _ _ a]; exact h j p hj a b c
    have oth0 : ∀ (o : Ab.Obj) j p, σ.get j = some p → j ≠ ik → j ≠ jf → j ≠ im → (σ.set gid o).get j = some p := fun o j p hj _ _ _ => by rw [get_fresh hgid (by rw [hj]; rfl), hj]
    have hnk : node.toNat < k.length := by omega
    by_cases hz : at0 d node = 0
    · simp only [go_sem, Option.isSome_some, ↓reduceIte, if_true, if_false, Nat.reduceEqDiff, Nat.reduceAdd, Nat.reduceMul, Nat.reduceSub, Nat.reduceLT, Nat.reduceLeDiff, Nat.reduceDiv, Nat.reduceMod, Nat.reduceBEq, Int.reduceNeg, Int.reduceEq, Int.reduceNe, Int.reduceLT, Int.reduceLE, Int.reduceToNat, Int.reduceAdd, Int.reduceSub, Int.reduceMul, reduceCtorEq, decide_true, decide_false, Nat.zero_add, Nat.add_zero, Nat.zero_mul, Nat.sub_zero, Int.toNat_natCast, true_and, and_true, false_and, and_false, ne_eq, not_false_eq_true, not_true_eq_false, beq_self_eq_true, Bool.false_eq_true, Nat.le_refl, Nat.zero_le, hz, h0, l1, rowAt_ne q1, rowAt_get gk, x1]
      have hrow : (ints k).set node.toNat [AVal.sc (.int .i64 1)] = ints (k.set node.toNat 1) := (ints_set _ _ _).symm
      rw [hrow]
      obtain ⟨z1, z2, z3⟩ := hc.zero node h0 h1 hz
      have kget : ∀ v, 0 ≤ v → at0 (k.set node.toNat 1) v = if v = node then 1 else at0 k v := fun v v0 => at0_set h0 hnk v0
      rw [hz] at hinv
      refine ⟨k.set node.toNat 1, f, m, by simp, by rw [Store.get_set_ne _ _ (fun e => d1 e.symm), Store.get_set_ne _ _ q2, gf], by rw [Store.get_set_ne _ _ (fun e => d2 e.symm), Store.get_set_ne _ _ q3, gm], by simpa using lk, lf, lm, ⟨fun v v0 v1 v2 v3 => ?_, ⟨?_, ?_, ?_⟩, fun v v0 v1 v2 => ?_, fun v v0 v1 v2 v3 hp => ?_⟩, others _ _ (oth0 _)⟩
      · rw [kget v v0]
        split
        · rename_i e; subst e; exact .inr ⟨z1.symm, by rw [z2]; exact hk1.2.1, by rw [z3]; exact hk1.2.2⟩
        · exact hinv v v0 v1 v2 v3
      · rw [kget node h0, if_pos rfl, z1]
      · rw [z2]; exact hk1.2.1
      · rw [z3]; exact hk1.2.2
      · rw [kget v v0, if_neg (fun e => v2 (by rw [e, hz]; exact ⟨Int.le_refl _, Int.le_refl _⟩))]
        exact ⟨rfl, rfl, rfl⟩
      · rw [kget v v0]
        split
        · rename_i e; subst e; exact ⟨z1.symm, by rw [z2]; exact hk1.2.1, by rw [z3]; exact hk1.2.2⟩
        · rcases hinv v v0 v1 v2 v3 with h | h
          · have := (hc.bp v v0 v1 v2).1; omega
          · exact h
    simp only [go_sem, Option.isSome_some, ↓reduceIte, if_true, if_false, Nat.reduceEqDiff, Nat.reduceAdd, Nat.reduceMul, Nat.reduceSub, Nat.reduceLT, Nat.reduceLeDiff, Nat.reduceDiv, Nat.reduceMod, Nat.reduceBEq, Int.reduceNeg, Int.reduceEq, Int.reduceNe, Int.reduceLT, Int.reduceLE, Int.reduceToNat, Int.reduceAdd, Int.reduceSub, Int.reduceMul, reduceCtorEq, decide_true, decide_false, Nat.zero_add, Nat.add_zero, Nat.zero_mul, Nat.sub_zero, Int.toNat_natCast, true_and, and_true, false_and, and_false, ne_eq, not_false_eq_true, not_true_eq_false, beq_self_eq_true, Bool.false_eq_true, Nat.le_refl, Nat.zero_le, hz, h0]
    refine good_imm (ref_next_ok g down d node hm) rfl ?_
    simp only [go_sem, Option.isSome_some, ↓reduceIte, if_true, if_false, Nat.reduceEqDiff, Nat.reduceAdd, Nat.reduceMul, Nat.reduceSub, Nat.reduceLT, Nat.reduceLeDiff, Nat.reduceDiv, Nat.reduceMod, Nat.reduceBEq, Int.reduceNeg, Int.reduceEq, Int.reduceNe, Int.reduceLT, Int.reduceLE, Int.reduceToNat, Int.reduceAdd, Int.reduceSub, Int.reduceMul, reduceCtorEq, decide_true, decide_false, Nat.zero_add, Nat.add_zero, Nat.zero_mul, Nat.sub_zero, Int.toNat_natCast, true_and, and_true, false_and, and_false, ne_eq, not_false_eq_true, not_true_eq_false, beq_self_eq_true, Bool.false_eq_true, Nat.le_refl, Nat.zero_le]
    have hpos : 0 < at0 d node := by omega
    have ep := hc.p node h0 h1 hpos
    have ef := hc.f node h0 h1 hpos
    have em := hc.m node h0 h1 hpos
    have hmem : ∀ e ∈ nextOf g down d node, _ := fun e he => nextOf_mem hg he
    have hlen : (nextOf g down d node).length ≤ 2 * g.ls.length := by
      unfold nextOf
      split
      · exact Nat.le_trans (List.length_filter_le _ _) (g.out_len node)
      · simp
    have glen := hg.1
    generalize nextOf g down d node = l at *
    let I : Nat → Fr → Store → Prop := fun mm fr τ => ∃ (i : Nat) (n : Int) (k2 f2 m2 : List Int), i ≤ l.length ∧ mm = l.length - i ∧ fr = [(1, .lst (bools down)), (2, .lst (ints d)), (3, .i node), (4, .sl ik 0 0 g.n.toNat 1), (5, .sl jf 0 0 g.n.toNat 1), (6, .sl im 0 0 g.n.toNat 1), (7, .ptr gid 0 0 0), (14, .i n), (15, .lst (ints l)), (16, .i i)] ∧
      τ.get ik = some (.row 0 false 1 (ints k2)) ∧ τ.get jf = some (.row 0 false 1 (ints f2)) ∧ τ.get im = some (.row 0 false 1 (ints m2)) ∧ τ.get gid = some (.row 0 false 2 [[.sc (.int .i64 g.n), .lst (g.ls.map Lk.row)]]) ∧
      k2.length = g.n.toNat ∧ f2.length = g.n.toNat ∧ m2.length = g.n.toNat ∧ CntMid g d P F M (at0 d node) node n (l.take i) k f m k2 f2 m2 ∧ (∀ j p, σ.get j = some p → j ≠ ik → j ≠ jf → j ≠ im → τ.get j = some p)
    refine loop_rule I l.length
      ⟨0, 0, k, f, m, by omega, rfl, rfl, by rw [Store.get_set_ne _ _ q1, gk], by rw [Store.get_set_ne _ _ q2, gf], by rw [Store.get_set_ne _ _ q3, gm], by simp, lk, lf, lm, ⟨fun v v0 v1 v2 v3 => hinv v v0 v1 v2 (by omega), fun v _ _ _ _ => ⟨rfl, rfl, rfl⟩, hk1.1, by rw [hk1.2.1]; rfl, by rw [hk1.2.2]; rfl, rfl, fun v v0 v1 v2 v3 hp => by
        rcases hinv v v0 v1 v2 (by omega) with h | h
        · have := (hc.bp v v0 v1 v2).1; omega
        · exact h⟩, oth0 _⟩ ?_
    rintro mm fr τ ⟨i, n, k2, f2, m2, hi, rfl, rfl, tk, tf, tm, tg, lk2, lf2, lm2, mid, oth⟩
    simp only [go_sem, Option.isSome_some, ↓reduceIte, if_true, if_false, Nat.reduceEqDiff, Nat.reduceAdd, Nat.reduceMul, Nat.reduceSub, Nat.reduceLT, Nat.reduceLeDiff, Nat.reduceDiv, Nat.reduceMod, Nat.reduceBEq, Int.reduceNeg, Int.reduceEq, Int.reduceNe, Int.reduceLT, Int.reduceLE, Int.reduceToNat, Int.reduceAdd, Int.reduceSub, Int.reduceMul, reduceCtorEq, decide_true, decide_false, Nat.zero_add, Nat.add_zero, Nat.zero_mul, Nat.sub_zero, Int.toNat_natCast, true_and, and_true, false_and, and_false, ne_eq, not_false_eq_true, not_true_eq_false, beq_self_eq_true, Bool.false_eq_true, Nat.le_refl, Nat.zero_le]
    refine .intro (fun hil => ?_) (fun hil => ?_)
    · have hil' : i < l.length := by omega
      have hme := hmem _ (List.getElem_mem hil')
      have x3 : (ints l)[i]? = some [.sc (.int .i64 l[i])] := ints_get (List.getElem?_eq_getElem hil')
      have htake : l.take (i + 1) = l.take i ++ [l[i]] := List.take_succ_eq_append_getElem hil'
      have hflag := few_flag F g (l.take i)
      have hflag2 : (l.take i = []) ↔ i = 0 := by
        constructor
        · intro h
          have : (l.take i).length = 0 := by rw [h]; rfl
          rw [List.length_take] at this; omega
        · intro h; subst h; rfl
      generalize l[i] = e at *
      obtain ⟨⟨e1, e2⟩, e3, e4, e5, e6, e7, e8⟩ := hme
      have n4 : (0 : Int) ≤ i := by omega
      have n5 : (i : Int) < l.length := by omega
      have w4 : IntKind.i64.wrap ((i : Int) + 1) = ((i + 1 : Nat) : Int) := by rw [wrap_id (by omega) (by omega)]; rfl
      simp only [go_sem, Option.isSome_some, ↓reduceIte, if_true, if_false, Nat.reduceEqDiff, Nat.reduceAdd, Nat.reduceMul, Nat.reduceSub, Nat.reduceLT, Nat.reduceLeDiff, Nat.reduceDiv, Nat.reduceMod, Nat.reduceBEq, Int.reduceNeg, Int.reduceEq, Int.reduceNe, Int.reduceLT, Int.reduceLE, Int.reduceToNat, Int.reduceAdd, Int.reduceSub, Int.reduceMul, reduceCtorEq, decide_true, decide_false, Nat.zero_add, Nat.add_zero, Nat.zero_mul, Nat.sub_zero, Int.toNat_natCast, true_and, and_true, false_and, and_false, ne_eq, not_false_eq_true, not_true_eq_false, beq_self_eq_true, Bool.false_eq_true, Nat.le_refl, Nat.zero_le]
      unfold op20_45
      simp only [go_sem, Option.isSome_some, ↓reduceIte, if_true, if_false, Nat.reduceEqDiff, Nat.reduceAdd, Nat.reduceMul, Nat.reduceSub, Nat.reduceLT, Nat.reduceLeDiff, Nat.reduceDiv, Nat.reduceMod, Nat.reduceBEq, Int.reduceNeg, Int.reduceEq, Int.reduceNe, Int.reduceLT, Int.reduceLE, Int.reduceToNat, Int.reduceAdd, Int.reduceSub, Int.reduceMul, reduceCtorEq, decide_true, decide_false, Nat.zero_add, Nat.add_zero, Nat.zero_mul, Nat.sub_zero, Int.toNat_natCast, true_and, and_true, false_and, and_false, ne_eq, not_false_eq_true, not_true_eq_false, beq_self_eq_true, Bool.false_eq_true, Nat.le_refl, Nat.zero_le, rowAt_get tg, n4, n5, x3]
      refine goodD_imm (rends_ok g e (by omega)) rfl ?_
      simp only [go_sem, Option.isSome_some, ↓reduceIte, if_true, if_false, Nat.reduceEqDiff, Nat.reduceAdd, Nat.reduceMul, Nat.reduceSub, Nat.reduceLT, Nat.reduceLeDiff, Nat.reduceDiv, Nat.reduceMod, Nat.reduceBEq, Int.reduceNeg, Int.reduceEq, Int.reduceNe, Int.reduceLT, Int.reduceLE, Int.reduceToNat, Int.reduceAdd, Int.reduceSub, Int.reduceMul, reduceCtorEq, decide_true, decide_false, Nat.zero_add, Nat.add_zero, Nat.zero_mul, Nat.sub_zero, Int.toNat_natCast, true_and, and_true, false_and, and_false, ne_eq, not_false_eq_true, not_true_eq_false, beq_self_eq_true, Bool.false_eq_true, Nat.le_refl, Nat.zero_le, rowAt_get tg]
      have nb := ways_bound P g (l.take i) 0 ⟨by omega, by omega⟩
      rw [← mid.nn] at nb
      generalize hb : (g.ends e).2.1 = b at *
      refine (ih b e4.1 e4.2 e5 (by omega) τ k2 f2 m2 ik jf im d1 d2 d3 tk tf tm lk2 lf2 lm2 (fun v v0 v1 v2 v3 => mid.low v v0 v1 v2 (by omega))).mono ?_
      rintro r τ2 ⟨k3, f3, m3, uk, uf, um, lk3, lf3, lm3, post, ufr⟩
      obtain ⟨b1, b2⟩ := hc.bp b e4.1 e4.2 e5
      obtain ⟨b3, b4⟩ := hc.bf b e4.1 e4.2 e5
      obtain ⟨b5, b6⟩ := hc.bm b e4.1 e4.2 e5
      have dmild : at0 d b ≤ 1000000000000 := mild_at hm hdl e4.1 e4.2
      obtain ⟨p1, p2, p3⟩ := post.done
      obtain ⟨r1, r2, r3⟩ := post.keep node h0 h1 (by omega)
      have y1 := mem_at0 lk3 e4.1 e4.2
      have y2 := mem_at0 lf3 e4.1 e4.2
      have y3 := mem_at0 lm3 e4.1 e4.2
      have y4 := mem_at0 lf3 h0 h1
      have y5 := mem_at0 lm3 h0 h1
      rw [p1] at y1
      rw [p2] at y2
      rw [p3] at y3
      have l2 := lt_toNat e4.1 e4.2
      have w5 : IntKind.i64.wrap (n + P b) = n + P b := wrapS_add nb ⟨b1, b2⟩
      have w6 : IntKind.i64.wrap (F b + 1) = F b + 1 := mild_lt b4 dmild b3
      have w7 : IntKind.i64.wrap (M b + 1) = M b + 1 := mild_lt b6 dmild b5
      have eb := e4.1
      have i0 := nat_eq0 i
      simp only [go_sem, Option.isSome_some, ↓reduceIte, if_true, if_false, Nat.reduceEqDiff, Nat.reduceAdd, Nat.reduceMul, Nat.reduceSub, Nat.reduceLT, Nat.reduceLeDiff, Nat.reduceDiv, Nat.reduceMod, Nat.reduceBEq, Int.reduceNeg, Int.reduceEq, Int.reduceNe, Int.reduceLT, Int.reduceLE, Int.reduceToNat, Int.reduceAdd, Int.reduceSub, Int.reduceMul, reduceCtorEq, decide_true, decide_false, Nat.zero_add, Nat.add_zero, Nat.zero_mul, Nat.sub_zero, Int.toNat_natCast, true_and, and_true, false_and, and_false, ne_eq, not_false_eq_true, not_true_eq_false, beq_self_eq_true, Bool.false_eq_true, Nat.le_refl, Nat.zero_le, eb, l2, rowAt_get uk, y1, w5]
      refine good_imm (cut_ok (n + P b) 0 1099511627776) rfl ?_
      have hcut : (if n + P b < 0 then 0 else if 1099511627776 < n + P b then 1099511627776 else n + P b) = cutS (n + P b) := rfl
      rw [hcut]
      have tgid : τ2.get gid = some (.row 0 false 2 [[.sc (.int .i64 g.n), .lst (g.ls.map Lk.row)]]) := ufr gid _ tg (fun e => q1 e.symm) (fun e => q2 e.symm) (fun e => q3 e.symm)
      have hnf : node.toNat < f3.length := toNat_lt' lf3 h0 h1
      have hnm : node.toNat < m3.length := toNat_lt' lm3 h0 h1
      have w4' : IntKind.i64.wrap ((i : Int) + 1) = ((i + 1 : Nat) : Int) := w4
      have frame : ∀ (τ4 : Store) (f4 m4 : List Int), τ4.get ik = some (.row 0 false 1 (ints k3)) → τ4.get jf = some (.row 0 false 1 (ints f4)) → τ4.get im = some (.row 0 false 1 (ints m4)) →
          (∀ j p, τ2.get j = some p → j ≠ ik → j ≠ jf → j ≠ im → τ4.get j = some p) → f4.length = f3.length → m4.length = m3.length →
          (at0 f4 node = if i = 0 ∨ F b + 1 < at0 f2 node then F b + 1 else at0 f2 node) → (at0 m4 node = if at0 m2 node < M b + 1 then M b + 1 else at0 m2 node) →
          (∀ v, 0 ≤ v → v ≠ node → at0 f4 v = at0 f3 v) → (∀ v, 0 ≤ v → v ≠ node → at0 m4 v = at0 m3 v) →
          Back I (l.length - i) [(1, .lst (bools down)), (2, .lst (ints d)), (3, .i node), (4, .sl ik 0 0 g.n.toNat 1), (5, .sl jf 0 0 g.n.toNat 1), (6, .sl im 0 0 g.n.toNat 1), (7, .ptr gid 0 0 0), (14, .i (cutS (n + P b))), (15, .lst (ints l)), (16, .i ((i + 1 : Nat) : Int))] τ4 := by
        intro τ4 f4 m4 z1 z2 z3 z4 z5 z6 z7 z8 z9 z10
        refine back_of (l.length - (i + 1)) (Nat.sub_lt_sub_left hil' (Nat.lt_succ_self i)) ⟨i + 1, cutS (n + P b), k3, f4, m4, hil', rfl, rfl, z1, z2, z3, z4 gid _ tgid (fun e => q1 e.symm) (fun e => q2 e.symm) (fun e => q3 e.symm), lk3, z5.trans lf3, z6.trans lm3, ?_, fun j p hj a b c => z4 j p (ufr j p (oth j p hj a b c) a b c) a b c⟩
        rw [htake]
        refine mid_step hc h0 h1 h2 mid post hb e4 e5 e6 e7 z7 z8 z9 z10 ?_
        rw [hflag, decide_eq_true_eq, hflag2]
      rw [r2] at y4
      rw [r3] at y5
      have gf3 : ∀ x v, 0 ≤ v → at0 (f3.set node.toNat x) v = if v = node then x else at0 f3 v := fun x v v0 => at0_set h0 hnf v0
      have gm3 : ∀ x v, 0 ≤ v → at0 (m3.set node.toNat x) v = if v = node then x else at0 m3 v := fun x v v0 => at0_set h0 hnm v0
      have rf : ∀ x, (ints f3).set node.toNat [AVal.sc (.int .i64 x)] = ints (f3.set node.toNat x) := fun x => (ints_set _ _ _).symm
      have rm : ∀ x, (ints m3).set node.toNat [AVal.sc (.int .i64 x)] = ints (m3.set node.toNat x) := fun x => (ints_set _ _ _).symm
      clear ih hinv hc hk1 others oth0 ep ef em hmem mid post hcut hflag hflag2 htake
      simp only [go_sem, Option.isSome_some, ↓reduceIte, if_true, if_false, Nat.reduceEqDiff, Nat.reduceAdd, Nat.reduceMul, Nat.reduceSub, Nat.reduceLT, Nat.reduceLeDiff, Nat.reduceDiv, Nat.reduceMod, Nat.reduceBEq, Int.reduceNeg, Int.reduceEq, Int.reduceNe, Int.reduceLT, Int.reduceLE, Int.reduceToNat, Int.reduceAdd, Int.reduceSub, Int.reduceMul, reduceCtorEq, decide_true, decide_false, Nat.zero_add, Nat.add_zero, Nat.zero_mul, Nat.sub_zero, Int.toNat_natCast, true_and, and_true, false_and, and_false, ne_eq, not_false_eq_true, not_true_eq_false, beq_self_eq_true, Bool.false_eq_true, Nat.le_refl, Nat.zero_le]
      unfold op20_69
      simp only [go_sem, Option.isSome_some, ↓reduceIte, if_true, if_false, Nat.reduceEqDiff, Nat.reduceAdd, Nat.reduceMul, Nat.reduceSub, Nat.reduceLT, Nat.reduceLeDiff, Nat.reduceDiv, Nat.reduceMod, Nat.reduceBEq, Int.reduceNeg, Int.reduceEq, Int.reduceNe, Int.reduceLT, Int.reduceLE, Int.reduceToNat, Int.reduceAdd, Int.reduceSub, Int.reduceMul, reduceCtorEq, decide_true, decide_false, Nat.zero_add, Nat.add_zero, Nat.zero_mul, Nat.sub_zero, Int.toNat_natCast, true_and, and_true, false_and, and_false, ne_eq, not_false_eq_true, not_true_eq_false, beq_self_eq_true, Bool.false_eq_true, Nat.le_refl, Nat.zero_le, i0]
      have zf9 : ∀ v, 0 ≤ v → v ≠ node → at0 (f3.set node.toNat (F b + 1)) v = at0 f3 v := fun v v0 hv => by rw [gf3 _ v v0, if_neg hv]
      have umx : ∀ o, Ab.rowAt (τ2.set jf o) im 0 = some (false, 1, ints m3) := fun o => by rw [rowAt_ne (fun e => d3 e.symm), rowAt_get um]
      by_cases hi1 : i = 0
      · simp only [go_sem, Option.isSome_some, ↓reduceIte, if_true, if_false, Nat.reduceEqDiff, Nat.reduceAdd, Nat.reduceMul, Nat.reduceSub, Nat.reduceLT, Nat.reduceLeDiff, Nat.reduceDiv, Nat.reduceMod, Nat.reduceBEq, Int.reduceNeg, Int.reduceEq, Int.reduceNe, Int.reduceLT, Int.reduceLE, Int.reduceToNat, Int.reduceAdd, Int.reduceSub, Int.reduceMul, reduceCtorEq, decide_true, decide_false, Nat.zero_add, Nat.add_zero, Nat.zero_mul, Nat.sub_zero, Int.toNat_natCast, true_and, and_true, false_and, and_false, ne_eq, not_false_eq_true, not_true_eq_false, beq_self_eq_true, Bool.false_eq_true, Nat.le_refl, Nat.zero_le, hi1, eb, l2, rowAt_get uf, y2, w6, h0, l1, y4, rf]
        have zf7 : at0 (f3.set node.toNat (F b + 1)) node = if i = 0 ∨ F b + 1 < at0 f2 node then F b + 1 else at0 f2 node := by rw [gf3 _ node h0, if_pos rfl, if_pos (.inl hi1)]
        rw [hi1] at w4 zf7 frame
        unfold op20_91
        simp only [go_sem, Option.isSome_some, ↓reduceIte, if_true, if_false, Nat.reduceEqDiff, Nat.reduceAdd, Nat.reduceMul, Nat.reduceSub, Nat.reduceLT, Nat.reduceLeDiff, Nat.reduceDiv, Nat.reduceMod, Nat.reduceBEq, Int.reduceNeg, Int.reduceEq, Int.reduceNe, Int.reduceLT, Int.reduceLE, Int.reduceToNat, Int.reduceAdd, Int.reduceSub, Int.reduceMul, reduceCtorEq, decide_true, decide_false, Nat.zero_add, Nat.add_zero, Nat.zero_mul, Nat.sub_zero, Int.toNat_natCast, true_and, and_true, false_and, and_false, ne_eq, not_false_eq_true, not_true_eq_false, beq_self_eq_true, Bool.false_eq_true, Nat.le_refl, Nat.zero_le, eb, l2, umx, y3, w7, h0, l1, y5]
        by_cases hm0 : at0 m2 node < M b + 1
        · simp only [go_sem, Option.isSome_some, ↓reduceIte, if_true, if_false, Nat.reduceEqDiff, Nat.reduceAdd, Nat.reduceMul, Nat.reduceSub, Nat.reduceLT, Nat.reduceLeDiff, Nat.reduceDiv, Nat.reduceMod, Nat.reduceBEq, Int.reduceNeg, Int.reduceEq, Int.reduceNe, Int.reduceLT, Int.reduceLE, Int.reduceToNat, Int.reduceAdd, Int.reduceSub, Int.reduceMul, reduceCtorEq, decide_true, decide_false, Nat.zero_add, Nat.add_zero, Nat.zero_mul, Nat.sub_zero, Int.toNat_natCast, true_and, and_true, false_and, and_false, ne_eq, not_false_eq_true, not_true_eq_false, beq_self_eq_true, Bool.false_eq_true, Nat.le_refl, Nat.zero_le, hm0, eb, l2, umx, y3, w7, h0, l1, y5, rm, w4]
          refine frame _ (f3.set node.toNat (F b + 1)) (m3.set node.toNat (M b + 1)) ?_ ?_ ?_ ?_ ?_ (by simp) zf7 ?_ zf9 ?_
          · rw [Store.get_set_ne _ _ d2, Store.get_set_ne _ _ d1, uk]
          · rw [Store.get_set_ne _ _ d3, Store.get_set_self]
          · rw [Store.get_set_self]
          · intro j p hj a b c; rw [Store.get_set_ne _ _ c, Store.get_set_ne _ _ b]; exact hj
          · simp
          · rw [gm3 _ node h0, if_pos rfl, if_pos hm0]
          · intro v v0 hv; rw [gm3 _ v v0, if_neg hv]
        · simp only [go_sem, Option.isSome_some, ↓reduceIte, if_true, if_false, Nat.reduceEqDiff, Nat.reduceAdd, Nat.reduceMul, Nat.reduceSub, Nat.reduceLT, Nat.reduceLeDiff, Nat.reduceDiv, Nat.reduceMod, Nat.reduceBEq, Int.reduceNeg, Int.reduceEq, Int.reduceNe, Int.reduceLT, Int.reduceLE, Int.reduceToNat, Int.reduceAdd, Int.reduceSub, Int.reduceMul, reduceCtorEq, decide_true, decide_false, Nat.zero_add, Nat.add_zero, Nat.zero_mul, Nat.sub_zero, Int.toNat_natCast, true_and, and_true, false_and, and_false, ne_eq, not_false_eq_true, not_true_eq_false, beq_self_eq_true, Bool.false_eq_true, Nat.le_refl, Nat.zero_le, hm0, w4]
          refine frame _ (f3.set node.toNat (F b + 1)) m3 (by rw [Store.get_set_ne _ _ d1, uk]) (by rw [Store.get_set_self]) (by rw [Store.get_set_ne _ _ (fun e => d3 e.symm), um]) ?_ (by simp) rfl zf7 ?_ zf9 (fun _ _ _ => rfl)
          · intro j p hj a b c; rw [Store.get_set_ne _ _ b]; exact hj
          · rw [r3, if_neg hm0]
      by_cases hi2 : F b + 1 < at0 f2 node
      · simp only [go_sem, Option.isSome_some, ↓reduceIte, if_true, if_false, Nat.reduceEqDiff, Nat.reduceAdd, Nat.reduceMul, Nat.reduceSub, Nat.reduceLT, Nat.reduceLeDiff, Nat.reduceDiv, Nat.reduceMod, Nat.reduceBEq, Int.reduceNeg, Int.reduceEq, Int.reduceNe, Int.reduceLT, Int.reduceLE, Int.reduceToNat, Int.reduceAdd, Int.reduceSub, Int.reduceMul, reduceCtorEq, decide_true, decide_false, Nat.zero_add, Nat.add_zero, Nat.zero_mul, Nat.sub_zero, Int.toNat_natCast, true_and, and_true, false_and, and_false, ne_eq, not_false_eq_true, not_true_eq_false, beq_self_eq_true, Bool.false_eq_true, Nat.le_refl, Nat.zero_le, hi1, eb, l2, rowAt_get uf, y2, w6, h0, l1, y4, hi2, rf]
        have zf7 : at0 (f3.set node.toNat (F b + 1)) node = if i = 0 ∨ F b + 1 < at0 f2 node then F b + 1 else at0 f2 node := by rw [gf3 _ node h0, if_pos rfl, if_pos (.inr hi2)]
        unfold op20_91
        simp only [go_sem, Option.isSome_some, ↓reduceIte, if_true, if_false, Nat.reduceEqDiff, Nat.reduceAdd, Nat.reduceMul, Nat.reduceSub, Nat.reduceLT, Nat.reduceLeDiff, Nat.reduceDiv, Nat.reduceMod, Nat.reduceBEq, Int.reduceNeg, Int.reduceEq, Int.reduceNe, Int.reduceLT, Int.reduceLE, Int.reduceToNat, Int.reduceAdd, Int.reduceSub, Int.reduceMul, reduceCtorEq, decide_true, decide_false, Nat.zero_add, Nat.add_zero, Nat.zero_mul, Nat.sub_zero, Int.toNat_natCast, true_and, and_true, false_and, and_false, ne_eq, not_false_eq_true, not_true_eq_false, beq_self_eq_true, Bool.false_eq_true, Nat.le_refl, Nat.zero_le, eb, l2, umx, y3, w7, h0, l1, y5]
        by_cases hm0 : at0 m2 node < M b + 1
        · simp only [go_sem, Option.isSome_some, ↓reduceIte, if_true, if_false, Nat.reduceEqDiff, Nat.reduceAdd, Nat.reduceMul, Nat.reduceSub, Nat.reduceLT, Nat.reduceLeDiff, Nat.reduceDiv, Nat.reduceMod, Nat.reduceBEq, Int.reduceNeg, Int.reduceEq, Int.reduceNe, Int.reduceLT, Int.reduceLE, Int.reduceToNat, Int.reduceAdd, Int.reduceSub, Int.reduceMul, reduceCtorEq, decide_true, decide_false, Nat.zero_add, Nat.add_zero, Nat.zero_mul, Nat.sub_zero, Int.toNat_natCast, true_and, and_true, false_and, and_false, ne_eq, not_false_eq_true, not_true_eq_false, beq_self_eq_true, Bool.false_eq_true, Nat.le_refl, Nat.zero_le, hm0, eb, l2, umx, y3, w7, h0, l1, y5, rm, w4]
          refine frame _ (f3.set node.toNat (F b + 1)) (m3.set node.toNat (M b + 1)) ?_ ?_ ?_ ?_ ?_ (by simp) zf7 ?_ zf9 ?_
          · rw [Store.get_set_ne _ _ d2, Store.get_set_ne _ _ d1, uk]
          · rw [Store.get_set_ne _ _ d3, Store.get_set_self]
          · rw [Store.get_set_self]
          · intro j p hj a b c; rw [Store.get_set_ne _ _ c, Store.get_set_ne _ _ b]; exact hj
          · simp
          · rw [gm3 _ node h0, if_pos rfl, if_pos hm0]
          · intro v v0 hv; rw [gm3 _ v v0, if_neg hv]
        · simp only [go_sem, Option.isSome_some, ↓reduceIte, if_true, if_false, Nat.reduceEqDiff, Nat.reduceAdd, Nat.reduceMul, Nat.reduceSub, Nat.reduceLT, Nat.reduceLeDiff, Nat.reduceDiv, Nat.reduceMod, Nat.reduceBEq, Int.reduceNeg, Int.reduceEq, Int.reduceNe, Int.reduceLT, Int.reduceLE, Int.reduceToNat, Int.reduceAdd, Int.reduceSub, Int.reduceMul, reduceCtorEq, decide_true, decide_false, Nat.zero_add, Nat.add_zero, Nat.zero_mul, Nat.sub_zero, Int.toNat_natCast, true_and, and_true, false_and, and_false, ne_eq, not_false_eq_true, not_true_eq_false, beq_self_eq_true, Bool.false_eq_true, Nat.le_refl, Nat.zero_le, hm0, w4]
          refine frame _ (f3.set node.toNat (F b + 1)) m3 (by rw [Store.get_set_ne _ _ d1, uk]) (by rw [Store.get_set_self]) (by rw [Store.get_set_ne _ _ (fun e => d3 e.symm), um]) ?_ (by simp) rfl zf7 ?_ zf9 (fun _ _ _ => rfl)
          · intro j p hj a b c; rw [Store.get_set_ne _ _ b]; exact hj
          · rw [r3, if_neg hm0]
      · simp only [go_sem, Option.isSome_some, ↓reduceIte, if_true, if_false, Nat.reduceEqDiff, Nat.reduceAdd, Nat.reduceMul, Nat.reduceSub, Nat.reduceLT, Nat.reduceLeDiff, Nat.reduceDiv, Nat.reduceMod, Nat.reduceBEq, Int.reduceNeg, Int.reduceEq, Int.reduceNe, Int.reduceLT, Int.reduceLE, Int.reduceToNat, Int.reduceAdd, Int.reduceSub, Int.reduceMul, reduceCtorEq, decide_true, decide_false, Nat.zero_add, Nat.add_zero, Nat.zero_mul, Nat.sub_zero, Int.toNat_natCast, true_and, and_true, false_and, and_false, ne_eq, not_false_eq_true, not_true_eq_false, beq_self_eq_true, Bool.false_eq_true, Nat.le_refl, Nat.zero_le, hi1, eb, l2, rowAt_get uf, y2, w6, h0, l1, y4, hi2]
        have zf7 : at0 f3 node = if i = 0 ∨ F b + 1 < at0 f2 node then F b + 1 else at0 f2 node := by rw [r2, if_neg (fun h => h.elim hi1 hi2)]
        unfold op20_91
        simp only [go_sem, Option.isSome_some, ↓reduceIte, if_true, if_false, Nat.reduceEqDiff, Nat.reduceAdd, Nat.reduceMul, Nat.reduceSub, Nat.reduceLT, Nat.reduceLeDiff, Nat.reduceDiv, Nat.reduceMod, Nat.reduceBEq, Int.reduceNeg, Int.reduceEq, Int.reduceNe, Int.reduceLT, Int.reduceLE, Int.reduceToNat, Int.reduceAdd, Int.reduceSub, Int.reduceMul, reduceCtorEq, decide_true, decide_false, Nat.zero_add, Nat.add_zero, Nat.zero_mul, Nat.sub_zero, Int.toNat_natCast, true_and, and_true, false_and, and_false, ne_eq, not_false_eq_true, not_true_eq_false, beq_self_eq_true, Bool.false_eq_true, Nat.le_refl, Nat.zero_le, eb, l2, rowAt_get um, y3, w7, h0, l1, y5]
        by_cases hm0 : at0 m2 node < M b + 1
        · simp only [go_sem, Option.isSome_some, ↓reduceIte, if_true, if_false, Nat.reduceEqDiff, Nat.reduceAdd, Nat.reduceMul, Nat.reduceSub, Nat.reduceLT, Nat.reduceLeDiff, Nat.reduceDiv, Nat.reduceMod, Nat.reduceBEq, Int.reduceNeg, Int.reduceEq, Int.reduceNe, Int.reduceLT, Int.reduceLE, Int.reduceToNat, Int.reduceAdd, Int.reduceSub, Int.reduceMul, reduceCtorEq, decide_true, decide_false, Nat.zero_add, Nat.add_zero, Nat.zero_mul, Nat.sub_zero, Int.toNat_natCast, true_and, and_true, false_and, and_false, ne_eq, not_false_eq_true, not_true_eq_false, beq_self_eq_true, Bool.false_eq_true, Nat.le_refl, Nat.zero_le, hm0, eb, l2, rowAt_get um, y3, w7, h0, l1, y5, rm, w4]
          refine frame _ f3 (m3.set node.toNat (M b + 1)) ?_ ?_ ?_ ?_ ?_ (by simp) zf7 ?_ (fun _ _ _ => rfl) ?_
          · rw [Store.get_set_ne _ _ d2, uk]
          · rw [Store.get_set_ne _ _ d3, uf]
          · rw [Store.get_set_self]
          · intro j p hj a b c; rw [Store.get_set_ne _ _ c]; exact hj
          · simp
          · rw [gm3 _ node h0, if_pos rfl, if_pos hm0]
          · intro v v0 hv; rw [gm3 _ v v0, if_neg hv]
        · simp only [go_sem, Option.isSome_some, ↓reduceIte, if_true, if_false, Nat.reduceEqDiff, Nat.reduceAdd, Nat.reduceMul, Nat.reduceSub, Nat.reduceLT, Nat.reduceLeDiff, Nat.reduceDiv, Nat.reduceMod, Nat.reduceBEq, Int.reduceNeg, Int.reduceEq, Int.reduceNe, Int.reduceLT, Int.reduceLE, Int.reduceToNat, Int.reduceAdd, Int.reduceSub, Int.reduceMul, reduceCtorEq, decide_true, decide_false, Nat.zero_add, Nat.add_zero, Nat.zero_mul, Nat.sub_zero, Int.toNat_natCast, true_and, and_true, false_and, and_false, ne_eq, not_false_eq_true, not_true_eq_false, beq_self_eq_true, Bool.false_eq_true, Nat.le_refl, Nat.zero_le, hm0, w4]
          refine frame _ f3 m3 uk uf um (fun _ _ h _ _ _ => h) rfl rfl zf7 ?_ (fun _ _ _ => rfl) (fun _ _ _ => rfl)
          · rw [r3, if_neg hm0]
    · have e : i = l.length := by omega
      subst e
      rw [List.take_length] at mid
      have y1 := mem_at0 lk2 h0 h1
      simp only [go_sem, Option.isSome_some, ↓reduceIte, if_true, if_false, Nat.reduceEqDiff, Nat.reduceAdd, Nat.reduceMul, Nat.reduceSub, Nat.reduceLT, Nat.reduceLeDiff, Nat.reduceDiv, Nat.reduceMod, Nat.reduceBEq, Int.reduceNeg, Int.reduceEq, Int.reduceNe, Int.reduceLT, Int.reduceLE, Int.reduceToNat, Int.reduceAdd, Int.reduceSub, Int.reduceMul, reduceCtorEq, decide_true, decide_false, Nat.zero_add, Nat.add_zero, Nat.zero_mul, Nat.sub_zero, Int.toNat_natCast, true_and, and_true, false_and, and_false, ne_eq, not_false_eq_true, not_true_eq_false, beq_self_eq_true, Bool.false_eq_true, Nat.le_refl, Nat.zero_le, h0, l1, rowAt_get tk, y1]
      have hrow : (ints k2).set node.toNat [AVal.sc (.int .i64 n)] = ints (k2.set node.toNat n) := (ints_set _ _ _).symm
      rw [hrow]
      have hnk2 : node.toNat < k2.length := by omega
      have kget : ∀ v, 0 ≤ v → at0 (k2.set node.toNat n) v = if v = node then n else at0 k2 v := fun v v0 => at0_set h0 hnk2 v0
      have hn : n = P node := by rw [mid.nn, ep]
      have hfn : at0 f2 node = F node := by rw [mid.fn, ef]
      have hmn : at0 m2 node = M node := by rw [mid.mn, em]
      refine ⟨k2.set node.toNat n, f2, m2, by simp, by rw [Store.get_set_ne _ _ (fun e => d1 e.symm), tf], by rw [Store.get_set_ne _ _ (fun e => d2 e.symm), tm], by simpa using lk2, lf2, lm2, ⟨fun v v0 v1 v2 v3 => ?_, ⟨?_, hfn, hmn⟩, fun v v0 v1 v2 => ?_, fun v v0 v1 v2 v3 hp => ?_⟩, others _ _ oth⟩
      · rw [kget v v0]
        split
        · rename_i e; subst e; exact .inr ⟨hn, hfn, hmn⟩
        · rename_i e
          by_cases hv : at0 d v ≤ at0 d node - 1
          · exact mid.low v v0 v1 v2 hv
          · obtain ⟨s1, s2, s3⟩ := mid.high v v0 v1 (fun h => hv h.2) e
            rw [s1, s2, s3]
            exact hinv v v0 v1 v2 v3
      · rw [kget node h0, if_pos rfl]; exact hn
      · have e : v ≠ node := fun e => v2 (by rw [e]; exact ⟨h2, Int.le_refl _⟩)
        rw [kget v v0, if_neg e]
        exact mid.high v v0 v1 (fun h => v2 ⟨h.1, by omega⟩) e
      · rw [kget v v0]
        split
        · rename_i e; subst e; exact ⟨hn, hfn, hmn⟩
        · rename_i e
          by_cases hv : at0 d v ≤ at0 d node - 1
          · exact mid.stay v v0 v1 v2 hv hp
          · obtain ⟨s1, s2, s3⟩ := mid.high v v0 v1 (fun h => hv h.2) e
            rw [s1, s2, s3]
            rcases hinv v v0 v1 v2 v3 with h | h
            · have := (hc.bp v v0 v1 v2).1; omega
            · exact h
end Go.Proofs

set_option linter.unusedSimpArgs false
set_option linter.unusedVariables false
namespace Go.Proofs
open Go.Ab

def cnt (g : Gr) (down : List Bool) (d : List Int) : Nat → Int → Int × Int × Int
  | 0, _ => (1, 0, 0)
  | N + 1, v => if at0 d v ≤ 0 then (1, 0, 0) else
      ((nextOf g down d v).foldl (waysStep (fun u => (cnt g down d N u).1) g) 0, ((nextOf g down d v).foldl (fewStep (fun u => (cnt g down d N u).2.1) g) (true, 0)).2, (nextOf g down d v).foldl (manyStep (fun u => (cnt g down d N u).2.2) g) 0)

theorem foldl_congr' {α β : Type} {f h : β → α → β} : ∀ {l : List α} {b : β}, (∀ b, ∀ a ∈ l, f b a = h b a) → l.foldl f b = l.foldl h b
  | [], b, _ => rfl
  | a :: r, b, e => by rw [List.foldl_cons, List.foldl_cons, e b a (by simp)]; exact foldl_congr' fun b a ha => e b a (by simp [ha])

theorem cnt_fuel {g : Gr} (hg : g.Ok) {down : List Bool} {d : List Int} : ∀ (k N M : Nat) (v : Int), (at0 d v).toNat ≤ k → k ≤ N → k ≤ M → (cnt g down d N v) = (cnt g down d M v) := by
  intro k
  induction k with
  | zero =>
    intro N M v hv _ _
    have h : at0 d v ≤ 0 := by omega
    have key : ∀ N, cnt g down d N v = (1, 0, 0) := fun N => by
      cases N with
      | zero => rfl
      | succ N => unfold cnt; rw [if_pos h]
    rw [key N, key M]
  | succ k ih =>
    intro N M v hv hN hM
    obtain ⟨N, rfl⟩ : ∃ n, N = n + 1 := ⟨N - 1, by omega⟩
    obtain ⟨M, rfl⟩ : ∃ n, M = n + 1 := ⟨M - 1, by omega⟩
    unfold cnt
    by_cases h : at0 d v ≤ 0
    · rw [if_pos h, if_pos h]
    · rw [if_neg h, if_neg h]
      have key : ∀ e ∈ nextOf g down d v, cnt g down d N (g.ends e).2.1 = cnt g down d M (g.ends e).2.1 := fun e he => by
        obtain ⟨_, _, _, e5, e6, e7, _⟩ := nextOf_mem hg he
        exact ih N M _ (by omega) (by omega) (by omega)
      congr 1
      · exact foldl_congr' fun b a ha => by simp only [waysStep, key a ha]
      · congr 1
        · exact congrArg Prod.snd (foldl_congr' fun b a ha => by simp only [fewStep, key a ha])
        · exact foldl_congr' fun b a ha => by simp only [manyStep, key a ha]

def cntOf (g : Gr) (down : List Bool) (d : List Int) (v : Int) : Int × Int × Int := cnt g down d (at0 d v).toNat v
def cP (g : Gr) (down : List Bool) (d : List Int) (v : Int) : Int := (cntOf g down d v).1
def cF (g : Gr) (down : List Bool) (d : List Int) (v : Int) : Int := (cntOf g down d v).2.1
def cM (g : Gr) (down : List Bool) (d : List Int) (v : Int) : Int := (cntOf g down d v).2.2

theorem cntOf_zero {g : Gr} {down : List Bool} {d : List Int} {v : Int} (h : at0 d v ≤ 0) : cntOf g down d v = (1, 0, 0) := by
  unfold cntOf
  rw [show (at0 d v).toNat = 0 by omega]
  rfl
theorem cntOf_step {g : Gr} (hg : g.Ok) {down : List Bool} {d : List Int} {v : Int} (h : 0 < at0 d v) : cntOf g down d v =
    ((nextOf g down d v).foldl (waysStep (cP g down d) g) 0, ((nextOf g down d v).foldl (fewStep (cF g down d) g) (true, 0)).2, (nextOf g down d v).foldl (manyStep (cM g down d) g) 0) := by
  have e : cntOf g down d v = cnt g down d ((at0 d v).toNat - 1 + 1) v := by unfold cntOf; rw [show (at0 d v).toNat - 1 + 1 = (at0 d v).toNat by omega]
  rw [e]
  unfold cnt
  rw [if_neg (by omega)]
  have key : ∀ e ∈ nextOf g down d v, cnt g down d ((at0 d v).toNat - 1) (g.ends e).2.1 = cntOf g down d (g.ends e).2.1 := fun e he => by
    obtain ⟨_, _, _, e5, e6, e7, _⟩ := nextOf_mem hg he
    exact cnt_fuel hg _ _ _ _ (Nat.le_refl _) (by omega) (Nat.le_refl _)
  congr 1
  · exact foldl_congr' fun b a ha => by simp only [waysStep, key a ha, cP]
  · congr 1
    · exact congrArg Prod.snd (foldl_congr' fun b a ha => by simp only [fewStep, key a ha]; rfl)
    · exact foldl_congr' fun b a ha => by simp only [manyStep, key a ha]; rfl

theorem few_bound {F : Int → Int} {g : Gr} {D : Int} (hD : 0 ≤ D) : ∀ (l : List Int) (s : Bool × Int), (∀ e ∈ l, 0 ≤ F (g.ends e).2.1 ∧ F (g.ends e).2.1 + 1 ≤ D) → 0 ≤ s.2 ∧ s.2 ≤ D → 0 ≤ (l.foldl (fewStep F g) s).2 ∧ (l.foldl (fewStep F g) s).2 ≤ D
  | [], s, _, h => h
  | e :: r, s, hl, h => by
    rw [List.foldl_cons]
    refine few_bound hD r _ (fun x hx => hl x (by simp [hx])) ?_
    have := hl e (by simp)
    unfold fewStep
    simp only
    split <;> omega
theorem many_bound {M : Int → Int} {g : Gr} {D : Int} (hD : 0 ≤ D) : ∀ (l : List Int) (s : Int), (∀ e ∈ l, 0 ≤ M (g.ends e).2.1 ∧ M (g.ends e).2.1 + 1 ≤ D) → 0 ≤ s ∧ s ≤ D → 0 ≤ (l.foldl (manyStep M g) s) ∧ (l.foldl (manyStep M g) s) ≤ D
  | [], s, _, h => h
  | e :: r, s, hl, h => by
    rw [List.foldl_cons]
    refine many_bound hD r _ (fun x hx => hl x (by simp [hx])) ?_
    have := hl e (by simp)
    unfold manyStep
    split <;> omega
theorem cnt_bound {g : Gr} (hg : g.Ok) {down : List Bool} {d : List Int} : ∀ (k : Nat) (v : Int), (at0 d v).toNat ≤ k → 0 ≤ at0 d v →
    (0 ≤ cP g down d v ∧ cP g down d v ≤ 1099511627776) ∧ (0 ≤ cF g down d v ∧ cF g down d v ≤ at0 d v) ∧ (0 ≤ cM g down d v ∧ cM g down d v ≤ at0 d v) := by
  intro k
  induction k with
  | zero =>
    intro v hv h0
    have := cntOf_zero (g := g) (down := down) (d := d) (v := v) (by omega)
    unfold cP cF cM
    rw [this]
    simp
    exact h0
  | succ k ih =>
    intro v hv h0
    by_cases h : at0 d v ≤ 0
    · have := cntOf_zero (g := g) (down := down) h
      unfold cP cF cM
      rw [this]
      simp
      exact h0
    · have e := cntOf_step hg (down := down) (d := d) (v := v) (by omega)
      have key : ∀ e ∈ nextOf g down d v, (0 ≤ cF g down d (g.ends e).2.1 ∧ cF g down d (g.ends e).2.1 + 1 ≤ at0 d v) ∧ (0 ≤ cM g down d (g.ends e).2.1 ∧ cM g down d (g.ends e).2.1 + 1 ≤ at0 d v) := fun e he => by
        obtain ⟨_, _, _, e5, e6, e7, _⟩ := nextOf_mem hg he
        obtain ⟨_, h2, h3⟩ := ih (g.ends e).2.1 (by omega) e5
        omega
      refine ⟨?_, ?_, ?_⟩
      · have : cP g down d v = (nextOf g down d v).foldl (waysStep (cP g down d) g) 0 := by conv => lhs; unfold cP; rw [e]
        rw [this]
        exact ways_bound _ g _ 0 ⟨by omega, by omega⟩
      · have : cF g down d v = ((nextOf g down d v).foldl (fewStep (cF g down d) g) (true, 0)).2 := by conv => lhs; unfold cF; rw [e]
        rw [this]
        exact few_bound h0 _ _ (fun e he => (key e he).1) ⟨Int.le_refl _, h0⟩
      · have : cM g down d v = (nextOf g down d v).foldl (manyStep (cM g down d) g) 0 := by conv => lhs; unfold cM; rw [e]
        rw [this]
        exact many_bound h0 _ _ (fun e he => (key e he).2) ⟨Int.le_refl _, h0⟩

theorem isCnt {g : Gr} (hg : g.Ok) (down : List Bool) (d : List Int) : IsCnt g down d (cP g down d) (cF g down d) (cM g down d) where
  zero := fun v _ _ h => by
    have := cntOf_zero (g := g) (down := down) (d := d) (v := v) (by omega)
    unfold cP cF cM
    rw [this]
    exact ⟨rfl, rfl, rfl⟩
  p := fun v _ _ h => by conv => lhs; unfold cP; rw [cntOf_step hg h]
  f := fun v _ _ h => by conv => lhs; unfold cF; rw [cntOf_step hg h]
  m := fun v _ _ h => by conv => lhs; unfold cM; rw [cntOf_step hg h]
  bp := fun v _ _ h => (cnt_bound hg _ v (Nat.le_refl _) h).1
  bf := fun v _ _ h => (cnt_bound hg _ v (Nat.le_refl _) h).2.1
  bm := fun v _ _ h => (cnt_bound hg _ v (Nat.le_refl _) h).2.2
end Go.Proofs

set_option linter.unusedSimpArgs false
set_option linter.unusedVariables false
namespace Go.Proofs
open Go.Ab

def waysOf (g : Gr) (down : List Bool) (from_ to : Int) : Int × Int × Int × Bool :=
  if refFrom g down to ≠ [] ∧ (0 ≤ from_ ∧ from_ < g.n) ∧ 0 ≤ at0 (refFrom g down to) from_ then
    (cP g down (refFrom g down to) from_, cF g down (refFrom g down to) from_, cM g down (refFrom g down to) from_, true) else (0, 0, 0, false)

theorem out_tup4 {σ : Store} {m : Nat} {a b c d e f g h : AVal} (h1 : Out m σ a e) (h2 : Out m σ b f) (h3 : Out m σ c g) (h4 : Out m σ d h) : Out (m + 1) σ (.tup [a, b, c, d]) (.tup [e, f, g, h]) := by
  obtain ⟨y, h1, h1'⟩ := h1
  obtain ⟨z, h2, h2'⟩ := h2
  obtain ⟨u, h3, h3'⟩ := h3
  obtain ⟨t, h4, h4'⟩ := h4
  refine ⟨.tup [y, z, u, t], by simp [snap, mapO, h1, h2, h3, h4], sub_tup rfl fun i x y hx hy => ?_⟩
  match i with
  | 0 => simp at hx hy; subst hx hy; exact h1'
  | 1 => simp at hx hy; subst hx hy; exact h2'
  | 2 => simp at hx hy; subst hx hy; exact h3'
  | 3 => simp at hx hy; subst hx hy; exact h4'
  | i + 4 => simp at hx

theorem fill_step {n i : Nat} (hi : i < n) (x y : Int) : (List.replicate i x ++ List.replicate (n - i) y).set i x = List.replicate (i + 1) x ++ List.replicate (n - (i + 1)) y := by
  rw [List.set_append_right _ _ (by simp), List.replicate_succ', List.length_replicate, Nat.sub_self]
  obtain ⟨k, hk⟩ : ∃ k, n - i = k + 1 := ⟨n - i - 1, by omega⟩
  rw [hk, show n - (i + 1) = k by omega, List.replicate_succ]
  simp

theorem ref_ways_ok (g : Gr) (down : List Bool) (from_ to : Int) : PGood Try.prog 8 [g.val, .lst (bools down), .i from_, .i to] (.tup [.i (waysOf g down from_ to).1, .i (waysOf g down from_ to).2.1, .i (waysOf g down from_ to).2.2.1, .b (waysOf g down from_ to).2.2.2]) := by
  refine pgood_of_out 2 (good_of_wp isF8 (Nat.le_refl _) ?_)
  unfold ac8
  simp only [go_sem, Option.isSome_some, ↓reduceIte, if_true, if_false, Nat.reduceEqDiff, Nat.reduceAdd, Nat.reduceMul, Nat.reduceSub, Nat.reduceLT, Nat.reduceLeDiff, Nat.reduceDiv, Nat.reduceMod, Nat.reduceBEq, Int.reduceNeg, Int.reduceEq, Int.reduceNe, Int.reduceLT, Int.reduceLE, Int.reduceToNat, Int.reduceAdd, Int.reduceSub, Int.reduceMul, reduceCtorEq, decide_true, decide_false, Nat.zero_add, Nat.add_zero, Nat.zero_mul, Nat.sub_zero, Int.toNat_natCast, true_and, and_true, false_and, and_false, ne_eq, not_false_eq_true, not_true_eq_false, beq_self_eq_true, Bool.false_eq_true, Nat.le_refl, Nat.zero_le, Gr.val]
  intro gid hgid
  simp only [go_sem, Option.isSome_some, ↓reduceIte, if_true, if_false, Nat.reduceEqDiff, Nat.reduceAdd, Nat.reduceMul, Nat.reduceSub, Nat.reduceLT, Nat.reduceLeDiff, Nat.reduceDiv, Nat.reduceMod, Nat.reduceBEq, Int.reduceNeg, Int.reduceEq, Int.reduceNe, Int.reduceLT, Int.reduceLE, Int.reduceToNat, Int.reduceAdd, Int.reduceSub, Int.reduceMul, reduceCtorEq, decide_true, decide_false, Nat.zero_add, Nat.add_zero, Nat.zero_mul, Nat.sub_zero, Int.toNat_natCast, true_and, and_true, false_and, and_false, ne_eq, not_false_eq_true, not_true_eq_false, beq_self_eq_true, Bool.false_eq_true, Nat.le_refl, Nat.zero_le]
  refine good_imm (ref_from_ok g down to) rfl ?_
  have bmild : ∀ x ∈ refFrom g down to, -1 ≤ x ∧ x ≤ 671088640 := refFrom_mild
  have bnil := refFrom_nil (g := g) (down := down) (node := to)
  have hdef : waysOf g down from_ to = if refFrom g down to ≠ [] ∧ (0 ≤ from_ ∧ from_ < g.n) ∧ 0 ≤ at0 (refFrom g down to) from_ then
    (cP g down (refFrom g down to) from_, cF g down (refFrom g down to) from_, cM g down (refFrom g down to) from_, true) else (0, 0, 0, false) := rfl
  have blen : g.check.2 = 0 ∧ 0 ≤ to ∧ to < g.n → (refFrom g down to).length = g.n.toNat := fun h => (refFrom_dist (g.check_ok.1 h.1) h.2).len
  generalize refFrom g down to = b at *
  have nil : ¬ (b ≠ [] ∧ (0 ≤ from_ ∧ from_ < g.n) ∧ 0 ≤ at0 b from_) → ∀ σ : Store, Out 2 σ (.tup [.i 0, .i 0, .i 0, .b false]) (.tup [.i (waysOf g down from_ to).1, .i (waysOf g down from_ to).2.1, .i (waysOf g down from_ to).2.2.1, .b (waysOf g down from_ to).2.2.2]) := fun h σ => by
    rw [hdef, if_neg h]; exact out_tup4 out_sc out_sc out_sc out_sc
  simp only [go_sem, Option.isSome_some, ↓reduceIte, if_true, if_false, Nat.reduceEqDiff, Nat.reduceAdd, Nat.reduceMul, Nat.reduceSub, Nat.reduceLT, Nat.reduceLeDiff, Nat.reduceDiv, Nat.reduceMod, Nat.reduceBEq, Int.reduceNeg, Int.reduceEq, Int.reduceNe, Int.reduceLT, Int.reduceLE, Int.reduceToNat, Int.reduceAdd, Int.reduceSub, Int.reduceMul, reduceCtorEq, decide_true, decide_false, Nat.zero_add, Nat.add_zero, Nat.zero_mul, Nat.sub_zero, Int.toNat_natCast, true_and, and_true, false_and, and_false, ne_eq, not_false_eq_true, not_true_eq_false, beq_self_eq_true, Bool.false_eq_true, Nat.le_refl, Nat.zero_le]
  by_cases hb : b = []
  · have h0 : (b.length : Int) = 0 := by rw [hb]; rfl
    simp only [go_sem, Option.isSome_some, ↓reduceIte, if_true, if_false, Nat.reduceEqDiff, Nat.reduceAdd, Nat.reduceMul, Nat.reduceSub, Nat.reduceLT, Nat.reduceLeDiff, Nat.reduceDiv, Nat.reduceMod, Nat.reduceBEq, Int.reduceNeg, Int.reduceEq, Int.reduceNe, Int.reduceLT, Int.reduceLE, Int.reduceToNat, Int.reduceAdd, Int.reduceSub, Int.reduceMul, reduceCtorEq, decide_true, decide_false, Nat.zero_add, Nat.add_zero, Nat.zero_mul, Nat.sub_zero, Int.toNat_natCast, true_and, and_true, false_and, and_false, ne_eq, not_false_eq_true, not_true_eq_false, beq_self_eq_true, Bool.false_eq_true, Nat.le_refl, Nat.zero_le, h0]
    exact nil (fun h => h.1 hb) _
  have h0 : ¬ (b.length : Int) = 0 := fun h => hb (List.eq_nil_of_length_eq_zero (by omega))
  simp only [go_sem, Option.isSome_some, ↓reduceIte, if_true, if_false, Nat.reduceEqDiff, Nat.reduceAdd, Nat.reduceMul, Nat.reduceSub, Nat.reduceLT, Nat.reduceLeDiff, Nat.reduceDiv, Nat.reduceMod, Nat.reduceBEq, Int.reduceNeg, Int.reduceEq, Int.reduceNe, Int.reduceLT, Int.reduceLE, Int.reduceToNat, Int.reduceAdd, Int.reduceSub, Int.reduceMul, reduceCtorEq, decide_true, decide_false, Nat.zero_add, Nat.add_zero, Nat.zero_mul, Nat.sub_zero, Int.toNat_natCast, true_and, and_true, false_and, and_false, ne_eq, not_false_eq_true, not_true_eq_false, beq_self_eq_true, Bool.false_eq_true, Nat.le_refl, Nat.zero_le, h0]
  refine good_imm (node_ok g.n (.lst (g.ls.map Lk.row)) from_) rfl ?_
  simp only [go_sem, Option.isSome_some, ↓reduceIte, if_true, if_false, Nat.reduceEqDiff, Nat.reduceAdd, Nat.reduceMul, Nat.reduceSub, Nat.reduceLT, Nat.reduceLeDiff, Nat.reduceDiv, Nat.reduceMod, Nat.reduceBEq, Int.reduceNeg, Int.reduceEq, Int.reduceNe, Int.reduceLT, Int.reduceLE, Int.reduceToNat, Int.reduceAdd, Int.reduceSub, Int.reduceMul, reduceCtorEq, decide_true, decide_false, Nat.zero_add, Nat.add_zero, Nat.zero_mul, Nat.sub_zero, Int.toNat_natCast, true_and, and_true, false_and, and_false, ne_eq, not_false_eq_true, not_true_eq_false, beq_self_eq_true, Bool.false_eq_true, Nat.le_refl, Nat.zero_le]
  by_cases hn : 0 ≤ from_ ∧ from_ < g.n
  case neg =>
    simp only [go_sem, Option.isSome_some, ↓reduceIte, if_true, if_false, Nat.reduceEqDiff, Nat.reduceAdd, Nat.reduceMul, Nat.reduceSub, Nat.reduceLT, Nat.reduceLeDiff, Nat.reduceDiv, Nat.reduceMod, Nat.reduceBEq, Int.reduceNeg, Int.reduceEq, Int.reduceNe, Int.reduceLT, Int.reduceLE, Int.reduceToNat, Int.reduceAdd, Int.reduceSub, Int.reduceMul, reduceCtorEq, decide_true, decide_false, Nat.zero_add, Nat.add_zero, Nat.zero_mul, Nat.sub_zero, Int.toNat_natCast, true_and, and_true, false_and, and_false, ne_eq, not_false_eq_true, not_true_eq_false, beq_self_eq_true, Bool.false_eq_true, Nat.le_refl, Nat.zero_le, hn]
    exact nil (fun h => hn h.2.1) _
  have gb : g.check.2 = 0 ∧ 0 ≤ to ∧ to < g.n := Decidable.byContradiction fun h => hb (bnil.2 h)
  have bl := blen gb
  obtain ⟨k1, k2, k3, k4⟩ := g.check_ok.1 gb.1
  have hok : g.Ok := ⟨k1, k2, k3, k4⟩
  have hti : from_.toNat < b.length := by omega
  have n1 : from_ < (b.length : Int) := by omega
  have x1 : (ints b)[from_.toNat]? = some [.sc (.int .i64 (at0 b from_))] := ints_get (by simp [hti])
  have n0 := hn.1
  simp only [go_sem, Option.isSome_some, ↓reduceIte, if_true, if_false, Nat.reduceEqDiff, Nat.reduceAdd, Nat.reduceMul, Nat.reduceSub, Nat.reduceLT, Nat.reduceLeDiff, Nat.reduceDiv, Nat.reduceMod, Nat.reduceBEq, Int.reduceNeg, Int.reduceEq, Int.reduceNe, Int.reduceLT, Int.reduceLE, Int.reduceToNat, Int.reduceAdd, Int.reduceSub, Int.reduceMul, reduceCtorEq, decide_true, decide_false, Nat.zero_add, Nat.add_zero, Nat.zero_mul, Nat.sub_zero, Int.toNat_natCast, true_and, and_true, false_and, and_false, ne_eq, not_false_eq_true, not_true_eq_false, beq_self_eq_true, Bool.false_eq_true, Nat.le_refl, Nat.zero_le, hn, n0, n1, x1]
  by_cases hneg : at0 b from_ < 0
  · simp only [go_sem, Option.isSome_some, ↓reduceIte, if_true, if_false, Nat.reduceEqDiff, Nat.reduceAdd, Nat.reduceMul, Nat.reduceSub, Nat.reduceLT, Nat.reduceLeDiff, Nat.reduceDiv, Nat.reduceMod, Nat.reduceBEq, Int.reduceNeg, Int.reduceEq, Int.reduceNe, Int.reduceLT, Int.reduceLE, Int.reduceToNat, Int.reduceAdd, Int.reduceSub, Int.reduceMul, reduceCtorEq, decide_true, decide_false, Nat.zero_add, Nat.add_zero, Nat.zero_mul, Nat.sub_zero, Int.toNat_natCast, true_and, and_true, false_and, and_false, ne_eq, not_false_eq_true, not_true_eq_false, beq_self_eq_true, Bool.false_eq_true, Nat.le_refl, Nat.zero_le, hneg]
    exact nil (fun h => by omega) _
  have p1 : (0 : Int) ≤ g.n := by omega
  have p2 : g.n ≤ 9223372036854775807 := by omega
  have p3 : g.n.toNat * 8 ≤ 281474976710656 := by omega
  simp only [go_sem, Option.isSome_some, ↓reduceIte, if_true, if_false, Nat.reduceEqDiff, Nat.reduceAdd, Nat.reduceMul, Nat.reduceSub, Nat.reduceLT, Nat.reduceLeDiff, Nat.reduceDiv, Nat.reduceMod, Nat.reduceBEq, Int.reduceNeg, Int.reduceEq, Int.reduceNe, Int.reduceLT, Int.reduceLE, Int.reduceToNat, Int.reduceAdd, Int.reduceSub, Int.reduceMul, reduceCtorEq, decide_true, decide_false, Nat.zero_add, Nat.add_zero, Nat.zero_mul, Nat.sub_zero, Int.toNat_natCast, true_and, and_true, false_and, and_false, ne_eq, not_false_eq_true, not_true_eq_false, beq_self_eq_true, Bool.false_eq_true, Nat.le_refl, Nat.zero_le, hneg, p1, p2, p3]
  intro aid haid
  simp only [go_sem, Option.isSome_some, ↓reduceIte, if_true, if_false, Nat.reduceEqDiff, Nat.reduceAdd, Nat.reduceMul, Nat.reduceSub, Nat.reduceLT, Nat.reduceLeDiff, Nat.reduceDiv, Nat.reduceMod, Nat.reduceBEq, Int.reduceNeg, Int.reduceEq, Int.reduceNe, Int.reduceLT, Int.reduceLE, Int.reduceToNat, Int.reduceAdd, Int.reduceSub, Int.reduceMul, reduceCtorEq, decide_true, decide_false, Nat.zero_add, Nat.add_zero, Nat.zero_mul, Nat.sub_zero, Int.toNat_natCast, true_and, and_true, false_and, and_false, ne_eq, not_false_eq_true, not_true_eq_false, beq_self_eq_true, Bool.false_eq_true, Nat.le_refl, Nat.zero_le, rowAt_fresh haid]
  have e1 : gid ≠ aid := fun e => by rw [← e] at haid; simp at haid
  simp only [go_sem, Option.isSome_some, ↓reduceIte, if_true, if_false, Nat.reduceEqDiff, Nat.reduceAdd, Nat.reduceMul, Nat.reduceSub, Nat.reduceLT, Nat.reduceLeDiff, Nat.reduceDiv, Nat.reduceMod, Nat.reduceBEq, Int.reduceNeg, Int.reduceEq, Int.reduceNe, Int.reduceLT, Int.reduceLE, Int.reduceToNat, Int.reduceAdd, Int.reduceSub, Int.reduceMul, reduceCtorEq, decide_true, decide_false, Nat.zero_add, Nat.add_zero, Nat.zero_mul, Nat.sub_zero, Int.toNat_natCast, true_and, and_true, false_and, and_false, ne_eq, not_false_eq_true, not_true_eq_false, beq_self_eq_true, Bool.false_eq_true, Nat.le_refl, Nat.zero_le, p1, p2, p3]
  intro fid hfid
  have e2 : gid ≠ fid := fun e => by rw [← e, Store.get_set_ne _ _ e1] at hfid; simp at hfid
  have e3 : aid ≠ fid := fun e => by rw [← e] at hfid; simp at hfid
  simp only [go_sem, Option.isSome_some, ↓reduceIte, if_true, if_false, Nat.reduceEqDiff, Nat.reduceAdd, Nat.reduceMul, Nat.reduceSub, Nat.reduceLT, Nat.reduceLeDiff, Nat.reduceDiv, Nat.reduceMod, Nat.reduceBEq, Int.reduceNeg, Int.reduceEq, Int.reduceNe, Int.reduceLT, Int.reduceLE, Int.reduceToNat, Int.reduceAdd, Int.reduceSub, Int.reduceMul, reduceCtorEq, decide_true, decide_false, Nat.zero_add, Nat.add_zero, Nat.zero_mul, Nat.sub_zero, Int.toNat_natCast, true_and, and_true, false_and, and_false, ne_eq, not_false_eq_true, not_true_eq_false, beq_self_eq_true, Bool.false_eq_true, Nat.le_refl, Nat.zero_le, rowAt_fresh hfid, rowAt_fresh haid]
  simp only [go_sem, Option.isSome_some, ↓reduceIte, if_true, if_false, Nat.reduceEqDiff, Nat.reduceAdd, Nat.reduceMul, Nat.reduceSub, Nat.reduceLT, Nat.reduceLeDiff, Nat.reduceDiv, Nat.reduceMod, Nat.reduceBEq, Int.reduceNeg, Int.reduceEq, Int.reduceNe, Int.reduceLT, Int.reduceLE, Int.reduceToNat, Int.reduceAdd, Int.reduceSub, Int.reduceMul, reduceCtorEq, decide_true, decide_false, Nat.zero_add, Nat.add_zero, Nat.zero_mul, Nat.sub_zero, Int.toNat_natCast, true_and, and_true, false_and, and_false, ne_eq, not_false_eq_true, not_true_eq_false, beq_self_eq_true, Bool.false_eq_true, Nat.le_refl, Nat.zero_le, p1, p2, p3]
  intro mid hmid
  have e4 : gid ≠ mid := fun e => by rw [← e, Store.get_set_ne _ _ e2, Store.get_set_ne _ _ e1] at hmid; simp at hmid
  have e5 : aid ≠ mid := fun e => by rw [← e, Store.get_set_ne _ _ e3] at hmid; simp at hmid
  have e6 : fid ≠ mid := fun e => by rw [← e] at hmid; simp at hmid
  simp only [go_sem, Option.isSome_some, ↓reduceIte, if_true, if_false, Nat.reduceEqDiff, Nat.reduceAdd, Nat.reduceMul, Nat.reduceSub, Nat.reduceLT, Nat.reduceLeDiff, Nat.reduceDiv, Nat.reduceMod, Nat.reduceBEq, Int.reduceNeg, Int.reduceEq, Int.reduceNe, Int.reduceLT, Int.reduceLE, Int.reduceToNat, Int.reduceAdd, Int.reduceSub, Int.reduceMul, reduceCtorEq, decide_true, decide_false, Nat.zero_add, Nat.add_zero, Nat.zero_mul, Nat.sub_zero, Int.toNat_natCast, true_and, and_true, false_and, and_false, ne_eq, not_false_eq_true, not_true_eq_false, beq_self_eq_true, Bool.false_eq_true, Nat.le_refl, Nat.zero_le]
  have hz : List.replicate g.n.toNat [AVal.sc (.int .i64 0)] = ints (List.replicate g.n.toNat 0) := (ints_rep _ _).symm
  rw [hz]
  refine loop_rule (fun m fr σ => ∃ (i : Nat), i ≤ g.n.toNat ∧ m = g.n.toNat - i ∧ fr = [(1, .lst (bools down)), (2, .i from_), (4, .ptr gid 0 0 0), (12, .lst (ints b)), (13, .sl aid 0 0 g.n.toNat 1), (14, .sl fid 0 0 g.n.toNat 1), (15, .sl mid 0 0 g.n.toNat 1), (16, .i i)] ∧
    σ.get aid = some (.row 0 false 1 (ints (List.replicate i (-1) ++ List.replicate (g.n.toNat - i) 0))) ∧ σ.get fid = some (.row 0 false 1 (ints (List.replicate g.n.toNat 0))) ∧ σ.get mid = some (.row 0 false 1 (ints (List.replicate g.n.toNat 0))) ∧
    σ.get gid = some (.row 0 false 2 [[.sc (.int .i64 g.n), .lst (g.ls.map Lk.row)]])) g.n.toNat
    ⟨0, by omega, by omega, rfl, ?_, ?_, ?_, ?_⟩ ?_
  · rw [Store.get_set_ne _ _ e5, Store.get_set_ne _ _ e3, Store.get_set_self]; simp
  · rw [Store.get_set_ne _ _ e6, Store.get_set_self]
  · rw [Store.get_set_self]
  · rw [Store.get_set_ne _ _ e4, Store.get_set_ne _ _ e2, Store.get_set_ne _ _ e1, Store.get_set_self]
  rintro m fr σ ⟨i, h1, rfl, rfl, ga, gf, gm, gg⟩
  simp only [go_sem, Option.isSome_some, ↓reduceIte, if_true, if_false, Nat.reduceEqDiff, Nat.reduceAdd, Nat.reduceMul, Nat.reduceSub, Nat.reduceLT, Nat.reduceLeDiff, Nat.reduceDiv, Nat.reduceMod, Nat.reduceBEq, Int.reduceNeg, Int.reduceEq, Int.reduceNe, Int.reduceLT, Int.reduceLE, Int.reduceToNat, Int.reduceAdd, Int.reduceSub, Int.reduceMul, reduceCtorEq, decide_true, decide_false, Nat.zero_add, Nat.add_zero, Nat.zero_mul, Nat.sub_zero, Int.toNat_natCast, true_and, and_true, false_and, and_false, ne_eq, not_false_eq_true, not_true_eq_false, beq_self_eq_true, Bool.false_eq_true, Nat.le_refl, Nat.zero_le, rowAt_get gg]
  refine .intro (fun h => ?_) (fun h => ?_)
  · have hlen : (List.replicate i (-1 : Int) ++ List.replicate (g.n.toNat - i) 0).length = g.n.toNat := by simp; omega
    have hi : i < (List.replicate i (-1 : Int) ++ List.replicate (g.n.toNat - i) 0).length := by omega
    have x2 := ints_get (List.getElem?_eq_getElem hi)
    have n4 : (0 : Int) ≤ i := by omega
    have n5 : (i : Int) < g.n.toNat := by omega
    have w1 : IntKind.i64.wrap ((i : Int) + 1) = ((i + 1 : Nat) : Int) := by rw [wrap_id (by omega) (by omega)]; rfl
    simp only [go_sem, Option.isSome_some, ↓reduceIte, if_true, if_false, Nat.reduceEqDiff, Nat.reduceAdd, Nat.reduceMul, Nat.reduceSub, Nat.reduceLT, Nat.reduceLeDiff, Nat.reduceDiv, Nat.reduceMod, Nat.reduceBEq, Int.reduceNeg, Int.reduceEq, Int.reduceNe, Int.reduceLT, Int.reduceLE, Int.reduceToNat, Int.reduceAdd, Int.reduceSub, Int.reduceMul, reduceCtorEq, decide_true, decide_false, Nat.zero_add, Nat.add_zero, Nat.zero_mul, Nat.sub_zero, Int.toNat_natCast, true_and, and_true, false_and, and_false, ne_eq, not_false_eq_true, not_true_eq_false, beq_self_eq_true, Bool.false_eq_true, Nat.le_refl, Nat.zero_le, n4, n5, rowAt_get ga, x2, w1]
    refine back_of _ ?_ ⟨i + 1, by omega, rfl, rfl, ?_, ?_, ?_, ?_⟩
    · omega
    · rw [Store.get_set_self, ← fill_step (by omega), ints_set]
    · rw [Store.get_set_ne _ _ (fun e => e3 e.symm), gf]
    · rw [Store.get_set_ne _ _ (fun e => e5 e.symm), gm]
    · rw [Store.get_set_ne _ _ e1, gg]
  · simp only [go_sem, Option.isSome_some, ↓reduceIte, if_true, if_false, Nat.reduceEqDiff, Nat.reduceAdd, Nat.reduceMul, Nat.reduceSub, Nat.reduceLT, Nat.reduceLeDiff, Nat.reduceDiv, Nat.reduceMod, Nat.reduceBEq, Int.reduceNeg, Int.reduceEq, Int.reduceNe, Int.reduceLT, Int.reduceLE, Int.reduceToNat, Int.reduceAdd, Int.reduceSub, Int.reduceMul, reduceCtorEq, decide_true, decide_false, Nat.zero_add, Nat.add_zero, Nat.zero_mul, Nat.sub_zero, Int.toNat_natCast, true_and, and_true, false_and, and_false, ne_eq, not_false_eq_true, not_true_eq_false, beq_self_eq_true, Bool.false_eq_true, Nat.le_refl, Nat.zero_le]
    have e : i = g.n.toNat := by omega
    subst e
    rw [Nat.sub_self, List.replicate_zero, List.append_nil] at ga
    simp only [go_sem, Option.isSome_some, ↓reduceIte, if_true, if_false, Nat.reduceEqDiff, Nat.reduceAdd, Nat.reduceMul, Nat.reduceSub, Nat.reduceLT, Nat.reduceLeDiff, Nat.reduceDiv, Nat.reduceMod, Nat.reduceBEq, Int.reduceNeg, Int.reduceEq, Int.reduceNe, Int.reduceLT, Int.reduceLE, Int.reduceToNat, Int.reduceAdd, Int.reduceSub, Int.reduceMul, reduceCtorEq, decide_true, decide_false, Nat.zero_add, Nat.add_zero, Nat.zero_mul, Nat.sub_zero, Int.toNat_natCast, true_and, and_true, false_and, and_false, ne_eq, not_false_eq_true, not_true_eq_false, beq_self_eq_true, Bool.false_eq_true, Nat.le_refl, Nat.zero_le, rowAt_get gg]
    have hge : 0 ≤ at0 b from_ := by omega
    have hmild : Mild b := fun x hx => ⟨(bmild x hx).1, by have := (bmild x hx).2; omega⟩
    have ini : CntInv g b (cP g down b) (cF g down b) (cM g down b) (at0 b from_) (List.replicate g.n.toNat (-1)) (List.replicate g.n.toNat 0) (List.replicate g.n.toNat 0) := fun v v0 v1 _ _ => by
      have : v.toNat < g.n.toNat := by omega
      refine .inl ⟨?_, ?_, ?_⟩ <;> simp [this]
    refine (counts_ok g hok down b bl hmild _ _ _ (isCnt hok down b) ((at0 b from_).toNat + 1) from_ hn.1 hn.2 hge (by omega) σ _ _ _ aid fid mid e3 e5 e6 ga gf gm (by simp) (by simp) (by simp) ini).mono ?_
    rintro r τ ⟨k', f', m', tk, tf, tm, lk, lf, lm, post, oth⟩
    obtain ⟨q1, q2, q3⟩ := post.done
    have y1 := mem_at0 lk hn.1 hn.2
    have y2 := mem_at0 lf hn.1 hn.2
    have y3 := mem_at0 lm hn.1 hn.2
    have n6 : from_ < (g.n.toNat : Int) := by omega
    rw [q1] at y1
    rw [q2] at y2
    rw [q3] at y3
    simp only [go_sem, Option.isSome_some, ↓reduceIte, if_true, if_false, Nat.reduceEqDiff, Nat.reduceAdd, Nat.reduceMul, Nat.reduceSub, Nat.reduceLT, Nat.reduceLeDiff, Nat.reduceDiv, Nat.reduceMod, Nat.reduceBEq, Int.reduceNeg, Int.reduceEq, Int.reduceNe, Int.reduceLT, Int.reduceLE, Int.reduceToNat, Int.reduceAdd, Int.reduceSub, Int.reduceMul, reduceCtorEq, decide_true, decide_false, Nat.zero_add, Nat.add_zero, Nat.zero_mul, Nat.sub_zero, Int.toNat_natCast, true_and, and_true, false_and, and_false, ne_eq, not_false_eq_true, not_true_eq_false, beq_self_eq_true, Bool.false_eq_true, Nat.le_refl, Nat.zero_le]
    unfold op8_63
    simp only [go_sem, Option.isSome_some, ↓reduceIte, if_true, if_false, Nat.reduceEqDiff, Nat.reduceAdd, Nat.reduceMul, Nat.reduceSub, Nat.reduceLT, Nat.reduceLeDiff, Nat.reduceDiv, Nat.reduceMod, Nat.reduceBEq, Int.reduceNeg, Int.reduceEq, Int.reduceNe, Int.reduceLT, Int.reduceLE, Int.reduceToNat, Int.reduceAdd, Int.reduceSub, Int.reduceMul, reduceCtorEq, decide_true, decide_false, Nat.zero_add, Nat.add_zero, Nat.zero_mul, Nat.sub_zero, Int.toNat_natCast, true_and, and_true, false_and, and_false, ne_eq, not_false_eq_true, not_true_eq_false, beq_self_eq_true, Bool.false_eq_true, Nat.le_refl, Nat.zero_le, n0, n6, rowAt_get tk, rowAt_get tf, rowAt_get tm, y1, y2, y3]
    rw [hdef, if_pos ⟨hb, hn, hge⟩]
    exact out_tup4 out_sc out_sc out_sc out_sc
end Go.Proofs

set_option linter.unusedSimpArgs false
set_option linter.unusedVariables false
namespace Go.Proofs
open Go.Ab

theorem isnan_ok (n : Int) : PGood Try.prog 39 [.i n] (.b false) := by
  refine pgood_of_out 1 (good_of_wp isF39 (Nat.le_refl _) ?_)
  unfold ac39
  simp only [go_sem, Option.isSome_some, ↓reduceIte, if_true, if_false, Nat.reduceEqDiff, Nat.reduceAdd, Nat.reduceMul, Nat.reduceSub, Nat.reduceLT, Nat.reduceLeDiff, Nat.reduceDiv, Nat.reduceMod, Nat.reduceBEq, Int.reduceNeg, Int.reduceEq, Int.reduceNe, Int.reduceLT, Int.reduceLE, Int.reduceToNat, Int.reduceAdd, Int.reduceSub, Int.reduceMul, reduceCtorEq, decide_true, decide_false, Nat.zero_add, Nat.add_zero, Nat.zero_mul, Nat.sub_zero, Int.toNat_natCast, true_and, and_true, false_and, and_false, ne_eq, not_false_eq_true, not_true_eq_false, beq_self_eq_true, Bool.false_eq_true, Nat.le_refl, Nat.zero_le]
  exact out_sc
def cmpI (x y : Int) : Int := if x < y then -1 else if y < x then 1 else 0
theorem cmp_ok (x y : Int) : PGood Try.prog 30 [.i x, .i y] (.i (cmpI x y)) := by
  refine pgood_of_out 1 (good_of_wp isF30 (Nat.le_refl _) ?_)
  unfold ac30
  simp only [go_sem, Option.isSome_some, ↓reduceIte, if_true, if_false, Nat.reduceEqDiff, Nat.reduceAdd, Nat.reduceMul, Nat.reduceSub, Nat.reduceLT, Nat.reduceLeDiff, Nat.reduceDiv, Nat.reduceMod, Nat.reduceBEq, Int.reduceNeg, Int.reduceEq, Int.reduceNe, Int.reduceLT, Int.reduceLE, Int.reduceToNat, Int.reduceAdd, Int.reduceSub, Int.reduceMul, reduceCtorEq, decide_true, decide_false, Nat.zero_add, Nat.add_zero, Nat.zero_mul, Nat.sub_zero, Int.toNat_natCast, true_and, and_true, false_and, and_false, ne_eq, not_false_eq_true, not_true_eq_false, beq_self_eq_true, Bool.false_eq_true, Nat.le_refl, Nat.zero_le]
  refine good_imm (isnan_ok x) rfl ?_
  simp only [go_sem, Option.isSome_some, ↓reduceIte, if_true, if_false, Nat.reduceEqDiff, Nat.reduceAdd, Nat.reduceMul, Nat.reduceSub, Nat.reduceLT, Nat.reduceLeDiff, Nat.reduceDiv, Nat.reduceMod, Nat.reduceBEq, Int.reduceNeg, Int.reduceEq, Int.reduceNe, Int.reduceLT, Int.reduceLE, Int.reduceToNat, Int.reduceAdd, Int.reduceSub, Int.reduceMul, reduceCtorEq, decide_true, decide_false, Nat.zero_add, Nat.add_zero, Nat.zero_mul, Nat.sub_zero, Int.toNat_natCast, true_and, and_true, false_and, and_false, ne_eq, not_false_eq_true, not_true_eq_false, beq_self_eq_true, Bool.false_eq_true, Nat.le_refl, Nat.zero_le]
  refine good_imm (isnan_ok y) rfl ?_
  simp only [go_sem, Option.isSome_some, ↓reduceIte, if_true, if_false, Nat.reduceEqDiff, Nat.reduceAdd, Nat.reduceMul, Nat.reduceSub, Nat.reduceLT, Nat.reduceLeDiff, Nat.reduceDiv, Nat.reduceMod, Nat.reduceBEq, Int.reduceNeg, Int.reduceEq, Int.reduceNe, Int.reduceLT, Int.reduceLE, Int.reduceToNat, Int.reduceAdd, Int.reduceSub, Int.reduceMul, reduceCtorEq, decide_true, decide_false, Nat.zero_add, Nat.add_zero, Nat.zero_mul, Nat.sub_zero, Int.toNat_natCast, true_and, and_true, false_and, and_false, ne_eq, not_false_eq_true, not_true_eq_false, beq_self_eq_true, Bool.false_eq_true, Nat.le_refl, Nat.zero_le]
  unfold cmpI
  refine .intro (fun h => ?_) (fun h => ?_)
  · simp only [go_sem, Option.isSome_some, ↓reduceIte, if_true, if_false, Nat.reduceEqDiff, Nat.reduceAdd, Nat.reduceMul, Nat.reduceSub, Nat.reduceLT, Nat.reduceLeDiff, Nat.reduceDiv, Nat.reduceMod, Nat.reduceBEq, Int.reduceNeg, Int.reduceEq, Int.reduceNe, Int.reduceLT, Int.reduceLE, Int.reduceToNat, Int.reduceAdd, Int.reduceSub, Int.reduceMul, reduceCtorEq, decide_true, decide_false, Nat.zero_add, Nat.add_zero, Nat.zero_mul, Nat.sub_zero, Int.toNat_natCast, true_and, and_true, false_and, and_false, ne_eq, not_false_eq_true, not_true_eq_false, beq_self_eq_true, Bool.false_eq_true, Nat.le_refl, Nat.zero_le]
    rw [if_pos h]; exact out_sc
  · simp only [go_sem, Option.isSome_some, ↓reduceIte, if_true, if_false, Nat.reduceEqDiff, Nat.reduceAdd, Nat.reduceMul, Nat.reduceSub, Nat.reduceLT, Nat.reduceLeDiff, Nat.reduceDiv, Nat.reduceMod, Nat.reduceBEq, Int.reduceNeg, Int.reduceEq, Int.reduceNe, Int.reduceLT, Int.reduceLE, Int.reduceToNat, Int.reduceAdd, Int.reduceSub, Int.reduceMul, reduceCtorEq, decide_true, decide_false, Nat.zero_add, Nat.add_zero, Nat.zero_mul, Nat.sub_zero, Int.toNat_natCast, true_and, and_true, false_and, and_false, ne_eq, not_false_eq_true, not_true_eq_false, beq_self_eq_true, Bool.false_eq_true, Nat.le_refl, Nat.zero_le]
    rw [if_neg h]
    refine .intro (fun h2 => ?_) (fun h2 => ?_)
    · simp only [go_sem, Option.isSome_some, ↓reduceIte, if_true, if_false, Nat.reduceEqDiff, Nat.reduceAdd, Nat.reduceMul, Nat.reduceSub, Nat.reduceLT, Nat.reduceLeDiff, Nat.reduceDiv, Nat.reduceMod, Nat.reduceBEq, Int.reduceNeg, Int.reduceEq, Int.reduceNe, Int.reduceLT, Int.reduceLE, Int.reduceToNat, Int.reduceAdd, Int.reduceSub, Int.reduceMul, reduceCtorEq, decide_true, decide_false, Nat.zero_add, Nat.add_zero, Nat.zero_mul, Nat.sub_zero, Int.toNat_natCast, true_and, and_true, false_and, and_false, ne_eq, not_false_eq_true, not_true_eq_false, beq_self_eq_true, Bool.false_eq_true, Nat.le_refl, Nat.zero_le]
      rw [if_pos h2]; exact out_sc
    · simp only [go_sem, Option.isSome_some, ↓reduceIte, if_true, if_false, Nat.reduceEqDiff, Nat.reduceAdd, Nat.reduceMul, Nat.reduceSub, Nat.reduceLT, Nat.reduceLeDiff, Nat.reduceDiv, Nat.reduceMod, Nat.reduceBEq, Int.reduceNeg, Int.reduceEq, Int.reduceNe, Int.reduceLT, Int.reduceLE, Int.reduceToNat, Int.reduceAdd, Int.reduceSub, Int.reduceMul, reduceCtorEq, decide_true, decide_false, Nat.zero_add, Nat.add_zero, Nat.zero_mul, Nat.sub_zero, Int.toNat_natCast, true_and, and_true, false_and, and_false, ne_eq, not_false_eq_true, not_true_eq_false, beq_self_eq_true, Bool.false_eq_true, Nat.le_refl, Nat.zero_le]
      rw [if_neg h2]; exact out_sc
theorem find1_ok (far : List Int) (x y : Int) (hx : 0 ≤ x ∧ x < far.length) (hy : 0 ≤ y ∧ y < far.length) : PGood Try.prog 29 [.i x, .i y, .iptr [.lst (ints far)] 0] (.i (cmpI (at0 far y) (at0 far x))) := by
  refine pgood_of_out 1 (good_of_wp isF29 (Nat.le_refl _) ?_)
  unfold ac29
  obtain ⟨x0, x1⟩ := hx
  obtain ⟨y0, y1⟩ := hy
  have hxi : x.toNat < far.length := by omega
  have hyi : y.toNat < far.length := by omega
  have e1 : (ints far)[x.toNat]? = some [.sc (.int .i64 (at0 far x))] := ints_get (by simp [hxi])
  have e2 : (ints far)[y.toNat]? = some [.sc (.int .i64 (at0 far y))] := ints_get (by simp [hyi])
  simp only [go_sem, Option.isSome_some, ↓reduceIte, if_true, if_false, Nat.reduceEqDiff, Nat.reduceAdd, Nat.reduceMul, Nat.reduceSub, Nat.reduceLT, Nat.reduceLeDiff, Nat.reduceDiv, Nat.reduceMod, Nat.reduceBEq, Int.reduceNeg, Int.reduceEq, Int.reduceNe, Int.reduceLT, Int.reduceLE, Int.reduceToNat, Int.reduceAdd, Int.reduceSub, Int.reduceMul, reduceCtorEq, decide_true, decide_false, Nat.zero_add, Nat.add_zero, Nat.zero_mul, Nat.sub_zero, Int.toNat_natCast, true_and, and_true, false_and, and_false, ne_eq, not_false_eq_true, not_true_eq_false, beq_self_eq_true, Bool.false_eq_true, Nat.le_refl, Nat.zero_le]
  unfold op29_6
  simp only [go_sem, Option.isSome_some, ↓reduceIte, if_true, if_false, Nat.reduceEqDiff, Nat.reduceAdd, Nat.reduceMul, Nat.reduceSub, Nat.reduceLT, Nat.reduceLeDiff, Nat.reduceDiv, Nat.reduceMod, Nat.reduceBEq, Int.reduceNeg, Int.reduceEq, Int.reduceNe, Int.reduceLT, Int.reduceLE, Int.reduceToNat, Int.reduceAdd, Int.reduceSub, Int.reduceMul, reduceCtorEq, decide_true, decide_false, Nat.zero_add, Nat.add_zero, Nat.zero_mul, Nat.sub_zero, Int.toNat_natCast, true_and, and_true, false_and, and_false, ne_eq, not_false_eq_true, not_true_eq_false, beq_self_eq_true, Bool.false_eq_true, Nat.le_refl, Nat.zero_le, x0, x1, y0, y1, e1, e2]
  refine goodD_imm (cmp_ok _ _) rfl ?_
  simp only [go_sem, Option.isSome_some, ↓reduceIte, if_true, if_false, Nat.reduceEqDiff, Nat.reduceAdd, Nat.reduceMul, Nat.reduceSub, Nat.reduceLT, Nat.reduceLeDiff, Nat.reduceDiv, Nat.reduceMod, Nat.reduceBEq, Int.reduceNeg, Int.reduceEq, Int.reduceNe, Int.reduceLT, Int.reduceLE, Int.reduceToNat, Int.reduceAdd, Int.reduceSub, Int.reduceMul, reduceCtorEq, decide_true, decide_false, Nat.zero_add, Nat.add_zero, Nat.zero_mul, Nat.sub_zero, Int.toNat_natCast, true_and, and_true, false_and, and_false, ne_eq, not_false_eq_true, not_true_eq_false, beq_self_eq_true, Bool.false_eq_true, Nat.le_refl, Nat.zero_le]
  exact out_sc
end Go.Proofs

set_option linter.unusedSimpArgs false
set_option linter.unusedVariables false
namespace Go.Proofs
open Go.Ab

/-! ### What dag.find finds -/
def enq (g : Gr) (s : List Bool × List Int) (e : Int) : List Bool × List Int :=
  if s.1.getD (g.ends e).2.1.toNat true then s else (s.1.set (g.ends e).2.1.toNat true, s.2 ++ [(g.ends e).2.1])
def visit (g : Gr) (nx : Int → List Int) : Nat → List Bool → List Int → List Int → List Int
  | 0, _, _, nodes => nodes
  | f + 1, seen, work, nodes => match work with
    | [] => nodes
    | at_ :: rest => visit g nx f ((nx at_).foldl (enq g) (seen, at_ :: rest)).1 ((nx at_).foldl (enq g) (seen, at_ :: rest)).2.tail (nodes ++ [at_])
def unseen (seen : List Bool) : Nat := seen.count false
def nodesOf (g : Gr) (nx : Int → List Int) (from_ : Int) : List Int := visit g nx g.n.toNat ((List.replicate g.n.toNat false).set from_.toNat true) [from_] []
def nextRows (nx : Int → List Int) (nodes : List Int) (n : Nat) : List (List AVal) := (List.range n).map fun (i : Nat) => [if (i : Int) ∈ nodes then .lst (ints (nx i)) else .nils]

theorem unseen_set {seen : List Bool} {i : Nat} (hi : i < seen.length) (h : seen.getD i true = false) : unseen (seen.set i true) + 1 = unseen seen := by
  unfold unseen
  have h' : seen[i] = false := by simpa [hi] using h
  have : 0 < seen.count false := List.count_pos_iff.2 (h' ▸ List.getElem_mem hi)
  rw [List.count_set hi]
  simp [h']
  omega
structure EnqInv (g : Gr) (s0 s : List Bool × List Int) : Prop where
  len : s.1.length = s0.1.length
  mea : unseen s.1 + s.2.length = unseen s0.1 + s0.2.length
  pre : ∃ r, s.2 = s0.2 ++ r
  rng : ∀ x ∈ s.2, x ∈ s0.2 ∨ (0 ≤ x ∧ x < g.n)
theorem enq_inv {g : Gr} {s0 s : List Bool × List Int} (h : EnqInv g s0 s) (hl : s0.1.length = g.n.toNat) {e : Int} (he : 0 ≤ (g.ends e).2.1 ∧ (g.ends e).2.1 < g.n) : EnqInv g s0 (enq g s e) := by
  unfold enq
  have hlt : (g.ends e).2.1.toNat < s.1.length := by rw [h.len, hl]; omega
  split
  · exact h
  · rename_i hs
    have hs' : s.1.getD (g.ends e).2.1.toNat true = false := by simpa using hs
    have := unseen_set hlt hs'
    obtain ⟨r, hr⟩ := h.pre
    refine ⟨by simpa using h.len, ?_, ⟨r ++ [(g.ends e).2.1], by simp [hr]⟩, fun x hx => ?_⟩
    · have := h.mea; simp only [List.length_append, List.length_cons, List.length_nil]; omega
    · rcases List.mem_append.1 hx with hx | hx
      · exact h.rng x hx
      · have : x = (g.ends e).2.1 := by simpa using hx
        rw [this]; exact .inr he
theorem enqs_inv {g : Gr} : ∀ (l : List Int) {s0 s : List Bool × List Int}, EnqInv g s0 s → s0.1.length = g.n.toNat → (∀ e ∈ l, 0 ≤ (g.ends e).2.1 ∧ (g.ends e).2.1 < g.n) → EnqInv g s0 (l.foldl (enq g) s)
  | [], _, _, h, _, _ => h
  | e :: r, s0, s, h, hl, hr => by
    rw [List.foldl_cons]
    exact enqs_inv r (enq_inv h hl (hr e (by simp))) hl fun x hx => hr x (by simp [hx])

theorem nextRows_len (nx : Int → List Int) (nodes : List Int) (n : Nat) : (nextRows nx nodes n).length = n := by simp [nextRows]
theorem nextRows_get (nx : Int → List Int) (nodes : List Int) {n : Nat} {x : Int} (h0 : 0 ≤ x) (h1 : x.toNat < n) : (nextRows nx nodes n)[x.toNat]? = some [if x ∈ nodes then .lst (ints (nx x)) else .nils] := by
  unfold nextRows
  rw [List.getElem?_map, List.getElem?_range h1]
  have : ((x.toNat : Nat) : Int) = x := by omega
  simp [this]
theorem nextRows_set (nx : Int → List Int) (nodes : List Int) {n : Nat} {x : Int} (h0 : 0 ≤ x) (h1 : x.toNat < n) : (nextRows nx nodes n).set x.toNat [.lst (ints (nx x))] = nextRows nx (nodes ++ [x]) n := by
  refine List.ext_getElem (by simp [nextRows]) fun i h2 h3 => ?_
  have hi : i < n := by simpa [nextRows] using h3
  rw [List.getElem_set]
  split
  · rename_i e
    subst e
    have : ((x.toNat : Nat) : Int) = x := by omega
    simp [nextRows, this]
  · rename_i e
    have hne : ¬ (i : Int) = x := by omega
    simp [nextRows, hne]
theorem nextRows_nil (nx : Int → List Int) (n : Nat) : nextRows nx [] n = List.replicate n [.nils] := by
  refine List.ext_getElem (by simp [nextRows]) fun i h2 h3 => ?_
  simp [nextRows]
theorem nextRows_all (nx : Int → List Int) (nodes : List Int) (n : Nat) : ∀ y ∈ nextRows nx nodes n, ∀ c ∈ y, ∀ m, immA (m + 1) c = true := by
  intro y hy c hc m
  unfold nextRows at hy
  rw [List.mem_map] at hy
  obtain ⟨i, _, rfl⟩ := hy
  have : c = _ := List.mem_singleton.1 hc
  rw [this]
  split <;> rfl

/-! ### find's memory -/
structure FInv (g : Gr) (far : List Int) (gid rid fid wid xid sid : Nat) (σ : Store) (seen : List Bool) (vw : AVal) (work : List Int) (vn : AVal) (nodes : List Int) (rows : List (List AVal)) : Prop where
  gg : σ.get gid = some (.row 0 false 2 [[.sc (.int .i64 g.n), .lst (g.ls.map Lk.row)]])
  gr : σ.get rid = some (.row 0 false 3 [[.nils, .nils, .b false]])
  gf : σ.get fid = some (.row 0 false 1 [[.lst (ints far)]])
  gw : σ.get wid = some (.row 0 false 3 [[vn, .sl xid 0 0 g.n.toNat 1, .b true]])
  gx : σ.get xid = some (.row 0 false 1 rows)
  gs : σ.get sid = some (.row 0 false 1 (bools seen))
  two : Two σ 1 vw (ints work) 1 vn (ints nodes) [gid, rid, fid, wid, xid, sid]
  ne : [gid, rid, fid, wid, xid, sid].Nodup

section
variable {g : Gr} {far : List Int} {gid rid fid wid xid sid : Nat} {σ σ' : Store} {seen : List Bool} {vw : AVal} {work : List Int} {vn : AVal} {nodes : List Int} {rows : List (List AVal)}
theorem FInv.fresh (h : FInv g far gid rid fid wid xid sid σ seen vw work vn nodes rows) {id : Nat} (hid : σ.get id = none) (o : Ab.Obj) : FInv g far gid rid fid wid xid sid (σ.set id o) seen vw work vn nodes rows where
  gg := by rw [get_fresh hid (by rw [h.gg]; rfl), h.gg]
  gr := by rw [get_fresh hid (by rw [h.gr]; rfl), h.gr]
  gf := by rw [get_fresh hid (by rw [h.gf]; rfl), h.gf]
  gw := by rw [get_fresh hid (by rw [h.gw]; rfl), h.gw]
  gx := by rw [get_fresh hid (by rw [h.gx]; rfl), h.gx]
  gs := by rw [get_fresh hid (by rw [h.gs]; rfl), h.gs]
  two := (h.two.fresh hid o).less fun x hx => List.mem_cons_of_mem _ hx
  ne := h.ne
theorem FInv.setW (h : FInv g far gid rid fid wid xid sid σ seen vw work vn nodes rows) {vn' : AVal} {nodes' : List Int} (ha : Acc σ' 1 vn' (ints nodes') (objs vw ++ [gid, rid, fid, wid, xid, sid])) (hk : ∀ j ∈ objs vw ++ [gid, rid, fid, wid, xid, sid], σ'.get j = σ.get j) :
    FInv g far gid rid fid wid xid sid (σ'.set wid (.row 0 false 3 [[vn', .sl xid 0 0 g.n.toNat 1, .b true]])) seen vw work vn' nodes' rows := by
  have hn := h.ne
  simp at hn
  obtain ⟨⟨n1, n2, n3, n4, n5⟩, ⟨n6, n7, n8, n9⟩, ⟨n10, n11, n12⟩, ⟨n13, n14⟩, n15⟩ := hn
  refine ⟨?_, ?_, ?_, by simp, ?_, ?_, ?_, h.ne⟩
  · rw [Store.get_set_ne _ _ n3, hk gid (by simp), h.gg]
  · rw [Store.get_set_ne _ _ n7, hk rid (by simp), h.gr]
  · rw [Store.get_set_ne _ _ n10, hk fid (by simp), h.gf]
  · rw [Store.get_set_ne _ _ (fun e => n13 e.symm), hk xid (by simp), h.gx]
  · rw [Store.get_set_ne _ _ (fun e => n14 e.symm), hk sid (by simp), h.gs]
  · exact ((h.two.swap.first ha hk).other (by simp) _).swap
theorem FInv.setX (h : FInv g far gid rid fid wid xid sid σ seen vw work vn nodes rows) (rows' : List (List AVal)) : FInv g far gid rid fid wid xid sid (σ.set xid (.row 0 false 1 rows')) seen vw work vn nodes rows' := by
  have hn := h.ne
  simp at hn
  obtain ⟨⟨n1, n2, n3, n4, n5⟩, ⟨n6, n7, n8, n9⟩, ⟨n10, n11, n12⟩, ⟨n13, n14⟩, n15⟩ := hn
  refine ⟨?_, ?_, ?_, ?_, by simp, ?_, h.two.other (by simp) _, h.ne⟩
  · rw [Store.get_set_ne _ _ n4, h.gg]
  · rw [Store.get_set_ne _ _ n8, h.gr]
  · rw [Store.get_set_ne _ _ n11, h.gf]
  · rw [Store.get_set_ne _ _ n13, h.gw]
  · rw [Store.get_set_ne _ _ (fun e => n15 e.symm), h.gs]
theorem FInv.setS (h : FInv g far gid rid fid wid xid sid σ seen vw work vn nodes rows) (seen' : List Bool) : FInv g far gid rid fid wid xid sid (σ.set sid (.row 0 false 1 (bools seen'))) seen' vw work vn nodes rows := by
  have hn := h.ne
  simp at hn
  obtain ⟨⟨n1, n2, n3, n4, n5⟩, ⟨n6, n7, n8, n9⟩, ⟨n10, n11, n12⟩, ⟨n13, n14⟩, n15⟩ := hn
  refine ⟨?_, ?_, ?_, ?_, ?_, by simp, h.two.other (by simp) _, h.ne⟩
  · rw [Store.get_set_ne _ _ n5, h.gg]
  · rw [Store.get_set_ne _ _ n9, h.gr]
  · rw [Store.get_set_ne _ _ n12, h.gf]
  · rw [Store.get_set_ne _ _ n14, h.gw]
  · rw [Store.get_set_ne _ _ n15, h.gx]
theorem FInv.setWork (h : FInv g far gid rid fid wid xid sid σ seen vw work vn nodes rows) {vw' : AVal} {work' : List Int} (ha : Acc σ' 1 vw' (ints work') (objs vn ++ [gid, rid, fid, wid, xid, sid])) (hk : ∀ j ∈ objs vn ++ [gid, rid, fid, wid, xid, sid], σ'.get j = σ.get j) :
    FInv g far gid rid fid wid xid sid σ' seen vw' work' vn nodes rows where
  gg := by rw [hk gid (by simp), h.gg]
  gr := by rw [hk rid (by simp), h.gr]
  gf := by rw [hk fid (by simp), h.gf]
  gw := by rw [hk wid (by simp), h.gw]
  gx := by rw [hk xid (by simp), h.gx]
  gs := by rw [hk sid (by simp), h.gs]
  two := h.two.first ha hk
  ne := h.ne
end
end Go.Proofs

set_option linter.unusedSimpArgs false
set_option linter.unusedVariables false
namespace Go.Proofs
open Go.Ab

/-! ### The sort of the nodes -/
def toNd (k : Nat) (x : Int) : Fin (k + 1) := Fin.ofNat (k + 1) x.toNat
theorem toNd_val {k : Nat} {x : Int} (h0 : 0 ≤ x) (h1 : x.toNat < k + 1) : (((toNd k x).val : Nat) : Int) = x := by
  unfold toNd
  simp only [Fin.ofNat, Nat.mod_eq_of_lt h1]
  omega
def cfFar (far : List Int) {k : Nat} (x y : Fin (k + 1)) : Int := cmpI (at0 far ((y.val : Nat) : Int)) (at0 far ((x.val : Nat) : Int))
theorem lt_cf (far : List Int) {k : Nat} (x y : Fin (k + 1)) : ltOf (cfFar far) x y = decide (at0 far ((y.val : Nat) : Int) < at0 far ((x.val : Nat) : Int)) := by
  unfold ltOf cfFar cmpI
  by_cases h : at0 far ((y.val : Nat) : Int) < at0 far ((x.val : Nat) : Int)
  · rw [if_pos h, decide_eq_true h]; rfl
  · rw [if_neg h, decide_eq_false h]
    split <;> rfl
theorem swoFar (far : List Int) {k : Nat} : Sort.SWO (ltOf (cfFar far (k := k))) where
  irrefl x := by rw [lt_cf]; simp
  trans x y z h1 h2 := by rw [lt_cf] at *; simp only [decide_eq_true_eq] at *; omega
  ntrans x y z h1 h2 := by rw [lt_cf] at *; simp only [decide_eq_false_iff_not] at *; omega
def sortNd (far : List Int) (k : Nat) (nodes : List Int) : List Int :=
  (Sort.pdq (ltOf (cfFar far)) (nodes.map (toNd k)).toArray 0 nodes.length (Lib.bitLen nodes.length) true true).toList.map (fun x => ((x.val : Nat) : Int))
theorem sortNd_pdq (far : List Int) (k : Nat) (d : Array (Fin (k + 1))) : Sort.PermIn 0 d.size d (Sort.pdq (ltOf (cfFar far)) d 0 d.size (Lib.bitLen d.size) true true) ∧ Sort.SortedIn (ltOf (cfFar far)) 0 d.size (Sort.pdq (ltOf (cfFar far)) d 0 d.size (Lib.bitLen d.size) true true) :=
  Sort.pdq_sorts (ltOf (cfFar far)) (swoFar far) d 0 d.size (Lib.bitLen d.size) true true (Nat.zero_le _) (Nat.le_refl _) (Or.inl rfl)
theorem back_map {k : Nat} {nodes : List Int} (h : ∀ x ∈ nodes, 0 ≤ x ∧ x.toNat < k + 1) : (nodes.map (toNd k)).map (fun x => ((x.val : Nat) : Int)) = nodes := by
  rw [List.map_map]
  conv => rhs; rw [← List.map_id nodes]
  exact List.map_congr_left fun x hx => toNd_val (h x hx).1 (h x hx).2
theorem sortNd_perm {far : List Int} {k : Nat} {nodes : List Int} (h : ∀ x ∈ nodes, 0 ≤ x ∧ x.toNat < k + 1) : (sortNd far k nodes).Perm nodes := by
  obtain ⟨⟨h1, _, h3⟩, _⟩ := sortNd_pdq far k (nodes.map (toNd k)).toArray
  simp only [List.size_toArray, List.length_map] at h1 h3
  unfold sortNd
  have e1 : ∀ d : Array (Fin (k + 1)), d.size = nodes.length → (d.extract 0 nodes.length).toList = d.toList := fun d hd => by rw [← hd]; simp
  rw [e1 _ h1, e1 _ (by simp)] at h3
  have := h3.map (fun x => ((x.val : Nat) : Int))
  rw [List.toList_toArray, back_map h] at this
  exact this
theorem sortNd_sorted {far : List Int} {k : Nat} {nodes : List Int} : (sortNd far k nodes).Pairwise (fun x y => at0 far y ≤ at0 far x) := by
  obtain ⟨⟨h1, _, _⟩, h2⟩ := sortNd_pdq far k (nodes.map (toNd k)).toArray
  simp only [List.size_toArray, List.length_map] at h1 h2
  unfold sortNd
  generalize Sort.pdq (ltOf (cfFar far)) (nodes.map (toNd k)).toArray 0 nodes.length (Lib.bitLen nodes.length) true true = d at *
  rw [List.pairwise_map, List.pairwise_iff_getElem]
  intro i j hi hj hij
  have := h2 i j (Nat.zero_le _) hij (by rw [← h1]; simpa using hj)
  rw [lt_cf, getElem!_pos d i (by simpa using hi), getElem!_pos d j (by simpa using hj)] at this
  simp only [decide_eq_false_iff_not] at this
  simp only [Array.getElem_toList]
  omega

def findVal (g : Gr) (down : List Bool) (from_ to : Int) : AVal :=
  if refFrom g down to ≠ [] ∧ (0 ≤ from_ ∧ from_ < g.n) ∧ 0 ≤ at0 (refFrom g down to) from_ then
    .agg [.lst (ints (sortNd (refFrom g down to) (g.n.toNat - 1) (nodesOf g (nextOf g down (refFrom g down to)) from_))), .lst (nextRows (nextOf g down (refFrom g down to)) (nodesOf g (nextOf g down (refFrom g down to)) from_) g.n.toNat), .b true]
  else .agg [.nils, .nils, .b false]

theorem find_sort {σ : Store} {id ver off fid : Nat} {xs : List (List AVal)} {nodes : List Int} {others : List Nat} {far : List Int} {k : Nat} (hk : far.length = k + 1) (hl : nodes.length < 1000000) (hn : ∀ x ∈ nodes, 0 ≤ x ∧ x.toNat < k + 1)
    (ha : AccAt σ 1 id ver off xs (ints nodes) others) (hf : σ.get fid = some (.row 0 false 1 [[.lst (ints far)]])) (hfo : fid ∈ others) {Q : AVal → Store → Prop}
    (hQ : ∀ σ', Acc σ' 1 (.sl id ver off nodes.length 1) (ints (sortNd far k nodes)) others → (∀ j ∈ others, σ'.get j = σ.get j) → Q (.tup []) σ') :
    Ab.Good Try.prog 28 [.sl id ver off nodes.length 1, .func 29 [.ptr fid 0 0 0]] σ Q := by
  have hne : fid ≠ id := ha.ne hfo
  have hsize : (nodes.map (toNd k)).toArray.size = nodes.length := by simp
  have hle := ha.le
  have heq := ha.eq
  rw [ints_len] at hle heq
  have := good_sortf (P := Try.prog) (f := 28) (g := 29) (τ := Fin (k + 1)) (σ := σ) (fun x => .int .i64 ((x.val : Nat) : Int)) (fun _ => rfl) (cfFar far) (fun d => Sort.pdq (ltOf (cfFar far)) d 0 d.size (Lib.bitLen d.size) true true) (fun d => (sortNd_pdq far k d).1.1)
    ⟨_, Try.func28, rfl, by kernel_rfl⟩
    (fun cb blk off cap d w hc hH hb hs => Try.slices_SortFunc_eq (fun x : Fin (k + 1) => .int .i64 ((x.val : Nat) : Int)) (fun _ => rfl) (cfFar far) (swoFar far) 29 cb blk off cap d w (enters_of Try.func29 (by kernel_rfl) rfl) hc hH hb hs)
    (fun p cap fv w => Try.slices_SortFunc_none (α := Nat) p cap fv w)
    (caps := [.ptr fid 0 0 0]) (xs := [.iptr [.lst (ints far)] 0]) (n := 2) (by simp [snapL, mapO, snap, rowAt_get hf])
    (fun x y => find1_ok far _ _ ⟨by omega, by have := x.isLt; omega⟩ ⟨by omega, by have := y.isLt; omega⟩)
    (id := id) (ver := ver) (off := off) (rows := xs) ha.row (by simp [reachL, reach, rowAt_get hf]; exact fun e => hne e.symm) (nodes.map (toNd k)).toArray (by rw [hsize]; exact hle) (by rw [hsize]; omega)
    (by
      rw [hsize, heq, List.toList_toArray, List.map_map]
      unfold ints
      exact List.map_congr_left fun x hx => by rw [Function.comp, toNd_val (hn x hx).1 (hn x hx).2])
    (Q := Q) ?_
  · rw [hsize] at this; exact this
  · rw [hsize]
    have hrow : (Sort.pdq (ltOf (cfFar far)) (nodes.map (toNd k)).toArray 0 nodes.length (Lib.bitLen nodes.length) true true).toList.map (fun x => [AVal.sc (.int .i64 ((x.val : Nat) : Int))]) = ints (sortNd far k nodes) := by
      unfold sortNd ints
      rw [List.map_map]; rfl
    simp only [hrow]
    have hlen : (sortNd far k nodes).length = nodes.length := (sortNd_perm hn).length_eq
    refine hQ _ ⟨ha.alive.set _ _, .inr ⟨id, ver, off, _, by rw [ints_len, hlen], rowAt_self, ha.not, ?_, ?_⟩⟩ fun j hj => Store.get_set_ne _ _ (ha.ne hj)
    · simp only [List.length_append, List.length_take, List.length_drop, ints_len, hlen]; omega
    · rw [List.append_assoc, List.drop_append_of_le_length (by simp; omega), List.drop_of_length_le (by simp; omega), List.nil_append, List.take_left']
      rfl
end Go.Proofs

set_option linter.unusedSimpArgs false
set_option linter.unusedVariables false
namespace Go.Proofs
open Go.Ab

set_option maxHeartbeats 1000000 in
theorem find_ok (g : Gr) (down : List Bool) (from_ to : Int) : PGood Try.prog 21 [g.val, .lst (bools down), .i from_, .i to] (findVal g down from_ to) := by
  refine pgood_of_out 4 (good_of_wp isF21 (Nat.le_refl _) ?_)
  unfold ac21
  simp only [go_sem, Option.isSome_some, ↓reduceIte, if_true, if_false, Nat.reduceEqDiff, Nat.reduceAdd, Nat.reduceMul, Nat.reduceSub, Nat.reduceLT, Nat.reduceLeDiff, Nat.reduceDiv, Nat.reduceMod, Nat.reduceBEq, Int.reduceNeg, Int.reduceEq, Int.reduceNe, Int.reduceLT, Int.reduceLE, Int.reduceToNat, Int.reduceAdd, Int.reduceSub, Int.reduceMul, reduceCtorEq, decide_true, decide_false, Nat.zero_add, Nat.add_zero, Nat.zero_mul, Nat.sub_zero, Int.toNat_natCast, true_and, and_true, false_and, and_false, ne_eq, not_false_eq_true, not_true_eq_false, beq_self_eq_true, Bool.false_eq_true, Nat.le_refl, Nat.zero_le, Gr.val]
  intro gid hgid
  simp only [go_sem, Option.isSome_some, ↓reduceIte, if_true, if_false, Nat.reduceEqDiff, Nat.reduceAdd, Nat.reduceMul, Nat.reduceSub, Nat.reduceLT, Nat.reduceLeDiff, Nat.reduceDiv, Nat.reduceMod, Nat.reduceBEq, Int.reduceNeg, Int.reduceEq, Int.reduceNe, Int.reduceLT, Int.reduceLE, Int.reduceToNat, Int.reduceAdd, Int.reduceSub, Int.reduceMul, reduceCtorEq, decide_true, decide_false, Nat.zero_add, Nat.add_zero, Nat.zero_mul, Nat.sub_zero, Int.toNat_natCast, true_and, and_true, false_and, and_false, ne_eq, not_false_eq_true, not_true_eq_false, beq_self_eq_true, Bool.false_eq_true, Nat.le_refl, Nat.zero_le]
  intro rid hrid
  have a1 : gid ≠ rid := fun e => by rw [← e] at hrid; simp at hrid
  simp only [go_sem, Option.isSome_some, ↓reduceIte, if_true, if_false, Nat.reduceEqDiff, Nat.reduceAdd, Nat.reduceMul, Nat.reduceSub, Nat.reduceLT, Nat.reduceLeDiff, Nat.reduceDiv, Nat.reduceMod, Nat.reduceBEq, Int.reduceNeg, Int.reduceEq, Int.reduceNe, Int.reduceLT, Int.reduceLE, Int.reduceToNat, Int.reduceAdd, Int.reduceSub, Int.reduceMul, reduceCtorEq, decide_true, decide_false, Nat.zero_add, Nat.add_zero, Nat.zero_mul, Nat.sub_zero, Int.toNat_natCast, true_and, and_true, false_and, and_false, ne_eq, not_false_eq_true, not_true_eq_false, beq_self_eq_true, Bool.false_eq_true, Nat.le_refl, Nat.zero_le, rowAt_fresh hrid]
  refine good_imm (spf_to_ok g down to) rfl ?_
  rw [spf_eq_ref]
  have bmild : ∀ x ∈ refFrom g down to, -1 ≤ x ∧ x ≤ 671088640 := refFrom_mild
  have bnil := refFrom_nil (g := g) (down := down) (node := to)
  have hdef : findVal g down from_ to = if refFrom g down to ≠ [] ∧ (0 ≤ from_ ∧ from_ < g.n) ∧ 0 ≤ at0 (refFrom g down to) from_ then
    .agg [.lst (ints (sortNd (refFrom g down to) (g.n.toNat - 1) (nodesOf g (nextOf g down (refFrom g down to)) from_))), .lst (nextRows (nextOf g down (refFrom g down to)) (nodesOf g (nextOf g down (refFrom g down to)) from_) g.n.toNat), .b true]
    else .agg [.nils, .nils, .b false] := rfl
  have blen : g.check.2 = 0 ∧ 0 ≤ to ∧ to < g.n → (refFrom g down to).length = g.n.toNat := fun h => (refFrom_dist (g.check_ok.1 h.1) h.2).len
  generalize refFrom g down to = b at *
  have nil : ¬ (b ≠ [] ∧ (0 ≤ from_ ∧ from_ < g.n) ∧ 0 ≤ at0 b from_) → ∀ σ : Store, Out 4 σ (.agg [.nils, .nils, .b false]) (findVal g down from_ to) := fun h σ => by
    rw [hdef, if_neg h]; exact out_imm rfl
  simp only [go_sem, Option.isSome_some, ↓reduceIte, if_true, if_false, Nat.reduceEqDiff, Nat.reduceAdd, Nat.reduceMul, Nat.reduceSub, Nat.reduceLT, Nat.reduceLeDiff, Nat.reduceDiv, Nat.reduceMod, Nat.reduceBEq, Int.reduceNeg, Int.reduceEq, Int.reduceNe, Int.reduceLT, Int.reduceLE, Int.reduceToNat, Int.reduceAdd, Int.reduceSub, Int.reduceMul, reduceCtorEq, decide_true, decide_false, Nat.zero_add, Nat.add_zero, Nat.zero_mul, Nat.sub_zero, Int.toNat_natCast, true_and, and_true, false_and, and_false, ne_eq, not_false_eq_true, not_true_eq_false, beq_self_eq_true, Bool.false_eq_true, Nat.le_refl, Nat.zero_le]
  intro fid hfid
  have a2 : gid ≠ fid := fun e => by rw [← e, Store.get_set_ne _ _ a1] at hfid; simp at hfid
  have a3 : rid ≠ fid := fun e => by rw [← e] at hfid; simp at hfid
  simp only [go_sem, Option.isSome_some, ↓reduceIte, if_true, if_false, Nat.reduceEqDiff, Nat.reduceAdd, Nat.reduceMul, Nat.reduceSub, Nat.reduceLT, Nat.reduceLeDiff, Nat.reduceDiv, Nat.reduceMod, Nat.reduceBEq, Int.reduceNeg, Int.reduceEq, Int.reduceNe, Int.reduceLT, Int.reduceLE, Int.reduceToNat, Int.reduceAdd, Int.reduceSub, Int.reduceMul, reduceCtorEq, decide_true, decide_false, Nat.zero_add, Nat.add_zero, Nat.zero_mul, Nat.sub_zero, Int.toNat_natCast, true_and, and_true, false_and, and_false, ne_eq, not_false_eq_true, not_true_eq_false, beq_self_eq_true, Bool.false_eq_true, Nat.le_refl, Nat.zero_le]
  by_cases hb : b = []
  · have h0 : (b.length : Int) = 0 := by rw [hb]; rfl
    simp only [go_sem, Option.isSome_some, ↓reduceIte, if_true, if_false, Nat.reduceEqDiff, Nat.reduceAdd, Nat.reduceMul, Nat.reduceSub, Nat.reduceLT, Nat.reduceLeDiff, Nat.reduceDiv, Nat.reduceMod, Nat.reduceBEq, Int.reduceNeg, Int.reduceEq, Int.reduceNe, Int.reduceLT, Int.reduceLE, Int.reduceToNat, Int.reduceAdd, Int.reduceSub, Int.reduceMul, reduceCtorEq, decide_true, decide_false, Nat.zero_add, Nat.add_zero, Nat.zero_mul, Nat.sub_zero, Int.toNat_natCast, true_and, and_true, false_and, and_false, ne_eq, not_false_eq_true, not_true_eq_false, beq_self_eq_true, Bool.false_eq_true, Nat.le_refl, Nat.zero_le, h0, rowAt_fresh hfid, rowAt_fresh hrid]
    exact nil (fun h => h.1 hb) _
  have h0 : ¬ (b.length : Int) = 0 := fun h => hb (List.eq_nil_of_length_eq_zero (by omega))
  simp only [go_sem, Option.isSome_some, ↓reduceIte, if_true, if_false, Nat.reduceEqDiff, Nat.reduceAdd, Nat.reduceMul, Nat.reduceSub, Nat.reduceLT, Nat.reduceLeDiff, Nat.reduceDiv, Nat.reduceMod, Nat.reduceBEq, Int.reduceNeg, Int.reduceEq, Int.reduceNe, Int.reduceLT, Int.reduceLE, Int.reduceToNat, Int.reduceAdd, Int.reduceSub, Int.reduceMul, reduceCtorEq, decide_true, decide_false, Nat.zero_add, Nat.add_zero, Nat.zero_mul, Nat.sub_zero, Int.toNat_natCast, true_and, and_true, false_and, and_false, ne_eq, not_false_eq_true, not_true_eq_false, beq_self_eq_true, Bool.false_eq_true, Nat.le_refl, Nat.zero_le, h0, rowAt_fresh hfid, rowAt_fresh hrid, rowAt_ne a2]
  refine good_imm (is_ok g.n (.lst (g.ls.map Lk.row)) from_) rfl ?_
  by_cases hn : 0 ≤ from_ ∧ from_ < g.n
  case neg =>
    simp only [go_sem, Option.isSome_some, ↓reduceIte, if_true, if_false, Nat.reduceEqDiff, Nat.reduceAdd, Nat.reduceMul, Nat.reduceSub, Nat.reduceLT, Nat.reduceLeDiff, Nat.reduceDiv, Nat.reduceMod, Nat.reduceBEq, Int.reduceNeg, Int.reduceEq, Int.reduceNe, Int.reduceLT, Int.reduceLE, Int.reduceToNat, Int.reduceAdd, Int.reduceSub, Int.reduceMul, reduceCtorEq, decide_true, decide_false, Nat.zero_add, Nat.add_zero, Nat.zero_mul, Nat.sub_zero, Int.toNat_natCast, true_and, and_true, false_and, and_false, ne_eq, not_false_eq_true, not_true_eq_false, beq_self_eq_true, Bool.false_eq_true, Nat.le_refl, Nat.zero_le, hn, rowAt_fresh hfid, rowAt_fresh hrid]
    exact nil (fun h => hn h.2.1) _
  have gb : g.check.2 = 0 ∧ 0 ≤ to ∧ to < g.n := Decidable.byContradiction fun h => hb (bnil.2 h)
  have bl := blen gb
  obtain ⟨k1, k2, k3, k4⟩ := g.check_ok.1 gb.1
  have hok : g.Ok := ⟨k1, k2, k3, k4⟩
  have hti : from_.toNat < b.length := by omega
  have n1 : from_ < (b.length : Int) := by omega
  have x1 : (ints b)[from_.toNat]? = some [.sc (.int .i64 (at0 b from_))] := ints_get (by simp [hti])
  have n0 := hn.1
  simp only [go_sem, Option.isSome_some, ↓reduceIte, if_true, if_false, Nat.reduceEqDiff, Nat.reduceAdd, Nat.reduceMul, Nat.reduceSub, Nat.reduceLT, Nat.reduceLeDiff, Nat.reduceDiv, Nat.reduceMod, Nat.reduceBEq, Int.reduceNeg, Int.reduceEq, Int.reduceNe, Int.reduceLT, Int.reduceLE, Int.reduceToNat, Int.reduceAdd, Int.reduceSub, Int.reduceMul, reduceCtorEq, decide_true, decide_false, Nat.zero_add, Nat.add_zero, Nat.zero_mul, Nat.sub_zero, Int.toNat_natCast, true_and, and_true, false_and, and_false, ne_eq, not_false_eq_true, not_true_eq_false, beq_self_eq_true, Bool.false_eq_true, Nat.le_refl, Nat.zero_le, hn, n0, n1, x1]
  by_cases hneg : at0 b from_ < 0
  · simp only [go_sem, Option.isSome_some, ↓reduceIte, if_true, if_false, Nat.reduceEqDiff, Nat.reduceAdd, Nat.reduceMul, Nat.reduceSub, Nat.reduceLT, Nat.reduceLeDiff, Nat.reduceDiv, Nat.reduceMod, Nat.reduceBEq, Int.reduceNeg, Int.reduceEq, Int.reduceNe, Int.reduceLT, Int.reduceLE, Int.reduceToNat, Int.reduceAdd, Int.reduceSub, Int.reduceMul, reduceCtorEq, decide_true, decide_false, Nat.zero_add, Nat.add_zero, Nat.zero_mul, Nat.sub_zero, Int.toNat_natCast, true_and, and_true, false_and, and_false, ne_eq, not_false_eq_true, not_true_eq_false, beq_self_eq_true, Bool.false_eq_true, Nat.le_refl, Nat.zero_le, hneg, rowAt_fresh hfid, rowAt_fresh hrid]
    exact nil (fun h => by omega) _
  have p1 : (0 : Int) ≤ g.n := by omega
  have p2 : g.n ≤ 9223372036854775807 := by omega
  have p3 : g.n.toNat * 24 ≤ 281474976710656 := by omega
  have p4 : g.n.toNat * 1 ≤ 281474976710656 := by omega
  simp only [go_sem, Option.isSome_some, ↓reduceIte, if_true, if_false, Nat.reduceEqDiff, Nat.reduceAdd, Nat.reduceMul, Nat.reduceSub, Nat.reduceLT, Nat.reduceLeDiff, Nat.reduceDiv, Nat.reduceMod, Nat.reduceBEq, Int.reduceNeg, Int.reduceEq, Int.reduceNe, Int.reduceLT, Int.reduceLE, Int.reduceToNat, Int.reduceAdd, Int.reduceSub, Int.reduceMul, reduceCtorEq, decide_true, decide_false, Nat.zero_add, Nat.add_zero, Nat.zero_mul, Nat.sub_zero, Int.toNat_natCast, true_and, and_true, false_and, and_false, ne_eq, not_false_eq_true, not_true_eq_false, beq_self_eq_true, Bool.false_eq_true, Nat.le_refl, Nat.zero_le, hneg, p1, p2, p3, rowAt_fresh hfid, rowAt_fresh hrid]
  intro xid hxid
  have a4 : gid ≠ xid := fun e => by rw [← e, Store.get_set_ne _ _ a2, Store.get_set_ne _ _ a1] at hxid; simp at hxid
  have a5 : rid ≠ xid := fun e => by rw [← e, Store.get_set_ne _ _ a3] at hxid; simp at hxid
  have a6 : fid ≠ xid := fun e => by rw [← e] at hxid; simp at hxid
  simp only [go_sem, Option.isSome_some, ↓reduceIte, if_true, if_false, Nat.reduceEqDiff, Nat.reduceAdd, Nat.reduceMul, Nat.reduceSub, Nat.reduceLT, Nat.reduceLeDiff, Nat.reduceDiv, Nat.reduceMod, Nat.reduceBEq, Int.reduceNeg, Int.reduceEq, Int.reduceNe, Int.reduceLT, Int.reduceLE, Int.reduceToNat, Int.reduceAdd, Int.reduceSub, Int.reduceMul, reduceCtorEq, decide_true, decide_false, Nat.zero_add, Nat.add_zero, Nat.zero_mul, Nat.sub_zero, Int.toNat_natCast, true_and, and_true, false_and, and_false, ne_eq, not_false_eq_true, not_true_eq_false, beq_self_eq_true, Bool.false_eq_true, Nat.le_refl, Nat.zero_le]
  intro wid hwid
  have a7 : gid ≠ wid := fun e => by rw [← e, Store.get_set_ne _ _ a4, Store.get_set_ne _ _ a2, Store.get_set_ne _ _ a1] at hwid; simp at hwid
  have a8 : rid ≠ wid := fun e => by rw [← e, Store.get_set_ne _ _ a5, Store.get_set_ne _ _ a3] at hwid; simp at hwid
  have a9 : fid ≠ wid := fun e => by rw [← e, Store.get_set_ne _ _ a6] at hwid; simp at hwid
  have a10 : xid ≠ wid := fun e => by rw [← e] at hwid; simp at hwid
  simp only [go_sem, Option.isSome_some, ↓reduceIte, if_true, if_false, Nat.reduceEqDiff, Nat.reduceAdd, Nat.reduceMul, Nat.reduceSub, Nat.reduceLT, Nat.reduceLeDiff, Nat.reduceDiv, Nat.reduceMod, Nat.reduceBEq, Int.reduceNeg, Int.reduceEq, Int.reduceNe, Int.reduceLT, Int.reduceLE, Int.reduceToNat, Int.reduceAdd, Int.reduceSub, Int.reduceMul, reduceCtorEq, decide_true, decide_false, Nat.zero_add, Nat.add_zero, Nat.zero_mul, Nat.sub_zero, Int.toNat_natCast, true_and, and_true, false_and, and_false, ne_eq, not_false_eq_true, not_true_eq_false, beq_self_eq_true, Bool.false_eq_true, Nat.le_refl, Nat.zero_le, rowAt_ne a7, rowAt_ne a4, rowAt_ne a2, rowAt_ne a1, p1, p2, p4]
  intro sid hsid
  have a11 : gid ≠ sid := fun e => by rw [← e, Store.get_set_ne _ _ a7, Store.get_set_ne _ _ a4, Store.get_set_ne _ _ a2, Store.get_set_ne _ _ a1] at hsid; simp at hsid
  have a12 : rid ≠ sid := fun e => by rw [← e, Store.get_set_ne _ _ a8, Store.get_set_ne _ _ a5, Store.get_set_ne _ _ a3] at hsid; simp at hsid
  have a13 : fid ≠ sid := fun e => by rw [← e, Store.get_set_ne _ _ a9, Store.get_set_ne _ _ a6] at hsid; simp at hsid
  have a14 : xid ≠ sid := fun e => by rw [← e, Store.get_set_ne _ _ a10] at hsid; simp at hsid
  have a15 : wid ≠ sid := fun e => by rw [← e] at hsid; simp at hsid
  simp only [go_sem, Option.isSome_some, ↓reduceIte, if_true, if_false, Nat.reduceEqDiff, Nat.reduceAdd, Nat.reduceMul, Nat.reduceSub, Nat.reduceLT, Nat.reduceLeDiff, Nat.reduceDiv, Nat.reduceMod, Nat.reduceBEq, Int.reduceNeg, Int.reduceEq, Int.reduceNe, Int.reduceLT, Int.reduceLE, Int.reduceToNat, Int.reduceAdd, Int.reduceSub, Int.reduceMul, reduceCtorEq, decide_true, decide_false, Nat.zero_add, Nat.add_zero, Nat.zero_mul, Nat.sub_zero, Int.toNat_natCast, true_and, and_true, false_and, and_false, ne_eq, not_false_eq_true, not_true_eq_false, beq_self_eq_true, Bool.false_eq_true, Nat.le_refl, Nat.zero_le]
  have hz : List.replicate g.n.toNat [AVal.sc (.bool false)] = bools (List.replicate g.n.toNat false) := (bools_rep _ _).symm
  have q1 : from_ < (g.n.toNat : Int) := by omega
  have q2 : from_.toNat < g.n.toNat := by omega
  have x2 : (bools (List.replicate g.n.toNat false))[from_.toNat]? = some [.sc (.bool false)] := bools_get (by simp [q2])
  rw [hz]
  simp only [go_sem, Option.isSome_some, ↓reduceIte, if_true, if_false, Nat.reduceEqDiff, Nat.reduceAdd, Nat.reduceMul, Nat.reduceSub, Nat.reduceLT, Nat.reduceLeDiff, Nat.reduceDiv, Nat.reduceMod, Nat.reduceBEq, Int.reduceNeg, Int.reduceEq, Int.reduceNe, Int.reduceLT, Int.reduceLE, Int.reduceToNat, Int.reduceAdd, Int.reduceSub, Int.reduceMul, reduceCtorEq, decide_true, decide_false, Nat.zero_add, Nat.add_zero, Nat.zero_mul, Nat.sub_zero, Int.toNat_natCast, true_and, and_true, false_and, and_false, ne_eq, not_false_eq_true, not_true_eq_false, beq_self_eq_true, Bool.false_eq_true, Nat.le_refl, Nat.zero_le, n0, q1, x2]
  intro kid hkid
  have hset : (bools (List.replicate g.n.toNat false)).set from_.toNat [AVal.sc (.bool true)] = bools ((List.replicate g.n.toNat false).set from_.toNat true) := (bools_set _ _ _).symm
  rw [hset] at hkid ⊢
  have hN : visit g (nextOf g down b) g.n.toNat ((List.replicate g.n.toNat false).set from_.toNat true) [from_] [] = nodesOf g (nextOf g down b) from_ := rfl
  have hfin : findVal g down from_ to = .agg [.lst (ints (sortNd b (g.n.toNat - 1) (nodesOf g (nextOf g down b) from_))), .lst (nextRows (nextOf g down b) (nodesOf g (nextOf g down b) from_) g.n.toNat), .b true] := by rw [hdef, if_pos ⟨hb, hn, by omega⟩]
  have hmild : Mild b := fun x hx => ⟨(bmild x hx).1, by have := (bmild x hx).2; omega⟩
  have hnx : ∀ at_ e, e ∈ nextOf g down b at_ → 0 ≤ (g.ends e).2.1 ∧ (g.ends e).2.1 < g.n := fun at_ e he => (nextOf_mem hok he).2.2.1
  have hnxe : ∀ at_ e, e ∈ nextOf g down b at_ → e < 9223372036854775808 := fun at_ e he => by have := (nextOf_mem hok he).1; omega
  have hnxl : ∀ at_, (nextOf g down b at_).length ≤ 240 := fun at_ => by
    unfold nextOf
    split
    · exact Nat.le_trans (List.length_filter_le _ _) (by have := g.out_len at_; omega)
    · simp
  have hun : unseen ((List.replicate g.n.toNat false).set from_.toNat true) + 1 = g.n.toNat := by
    have h1 : from_.toNat < g.n.toNat := by omega
    rw [unseen_set (by simpa using h1) (by simp [h1])]
    simp [unseen]
  clear hdef nil
  have hpn : ∀ at_, PGood Try.prog 27 [g.val, .lst (bools down), .lst (ints b), .i at_] (.lst (ints (nextOf g down b at_))) := fun at_ => spf_next_ok g down b at_ hmild
  generalize nextOf g down b = nx at *
  generalize nodesOf g nx from_ = N at *
  have al6 : Alive ((((((Store.empty.set gid (.row 0 false 2 [[.sc (.int .i64 g.n), .lst (g.ls.map Lk.row)]])).set rid (.row 0 false 3 [[.nils, .nils, .sc (.bool false)]])).set fid (.row 0 false 1 [[.lst (ints b)]])).set xid (.row 0 false 1 (List.replicate g.n.toNat [.nils]))).set wid (.row 0 false 3 [[.nils, .sl xid 0 0 g.n.toNat 1, .sc (.bool true)]])).set sid (.row 0 false 1 (bools ((List.replicate g.n.toNat false).set from_.toNat true)))) [gid, rid, fid, wid, xid, sid] := by
    intro j hj
    simp only [List.mem_cons, List.not_mem_nil, or_false] at hj
    rcases hj with rfl | rfl | rfl | rfl | rfl | rfl <;> simp [Store.get_set, a1, a2, a3, a4, a5, a6, a7, a8, a9, a10, a11, a12, a13, a14, a15]
  have ini : FInv g b gid rid fid wid xid sid (((((((Store.empty.set gid (.row 0 false 2 [[.sc (.int .i64 g.n), .lst (g.ls.map Lk.row)]])).set rid (.row 0 false 3 [[.nils, .nils, .sc (.bool false)]])).set fid (.row 0 false 1 [[.lst (ints b)]])).set xid (.row 0 false 1 (List.replicate g.n.toNat [.nils]))).set wid (.row 0 false 3 [[.nils, .sl xid 0 0 g.n.toNat 1, .sc (.bool true)]])).set sid (.row 0 false 1 (bools ((List.replicate g.n.toNat false).set from_.toNat true)))).set kid (.row 0 false 1 [[.sc (.int .i64 from_)]]))
      ((List.replicate g.n.toNat false).set from_.toNat true) (.sl kid 0 0 1 1) [from_] .nils [] (nextRows nx [] g.n.toNat) := by
    rw [nextRows_nil]
    refine ⟨?_, ?_, ?_, ?_, ?_, ?_, ?_, ?_⟩
    · rw [get_fresh hkid] <;> simp [Store.get_set, a1, a2, a4, a7, a11]
    · rw [get_fresh hkid] <;> simp [Store.get_set, a3, a5, a8, a12]
    · rw [get_fresh hkid] <;> simp [Store.get_set, a6, a9, a13]
    · rw [get_fresh hkid] <;> simp [Store.get_set, a15]
    · rw [get_fresh hkid] <;> simp [Store.get_set, a10, a14]
    · rw [get_fresh hkid] <;> simp [Store.get_set]
    · have h := acc_new (sz := 1) (rows := ints [from_]) al6 hkid
      exact ⟨h, acc_nils ((h.objs_alive).app h.1)⟩
    · simp [a1, a2, a3, a4, a5, a6, a7, a8, a9, a10, a11, a12, a13, a14, a15, a10.symm]
  generalize hσ : ((((((((Store.empty.set gid (.row 0 false 2 [[.sc (.int .i64 g.n), .lst (g.ls.map Lk.row)]])).set rid (.row 0 false 3 [[.nils, .nils, .sc (.bool false)]])).set fid (.row 0 false 1 [[.lst (ints b)]])).set xid (.row 0 false 1 (List.replicate g.n.toNat [.nils]))).set wid (.row 0 false 3 [[.nils, .sl xid 0 0 g.n.toNat 1, .sc (.bool true)]])).set sid (.row 0 false 1 (bools ((List.replicate g.n.toNat false).set from_.toNat true)))).set kid (.row 0 false 1 [[.sc (.int .i64 from_)]]))) = σ0 at *
  clear al6
  simp only [go_sem, Option.isSome_some, ↓reduceIte, if_true, if_false, Nat.reduceEqDiff, Nat.reduceAdd, Nat.reduceMul, Nat.reduceSub, Nat.reduceLT, Nat.reduceLeDiff, Nat.reduceDiv, Nat.reduceMod, Nat.reduceBEq, Int.reduceNeg, Int.reduceEq, Int.reduceNe, Int.reduceLT, Int.reduceLE, Int.reduceToNat, Int.reduceAdd, Int.reduceSub, Int.reduceMul, reduceCtorEq, decide_true, decide_false, Nat.zero_add, Nat.add_zero, Nat.zero_mul, Nat.sub_zero, Int.toNat_natCast, true_and, and_true, false_and, and_false, ne_eq, not_false_eq_true, not_true_eq_false, beq_self_eq_true, Bool.false_eq_true, Nat.le_refl, Nat.zero_le]
  let I : Nat → Fr → Store → Prop := fun m fr τ => ∃ (seen : List Bool) (vw : AVal) (work : List Int) (vn : AVal) (nodes : List Int), m = unseen seen + work.length ∧
    fr = [(1, .lst (bools down)), (4, .ptr gid 0 0 0), (8, .ptr rid 0 0 0), (9, .ptr fid 0 0 0), (10, .ptr wid 0 0 0), (11, .sl sid 0 0 g.n.toNat 1), (12, vw)] ∧
    FInv g b gid rid fid wid xid sid τ seen vw work vn nodes (nextRows nx nodes g.n.toNat) ∧ seen.length = g.n.toNat ∧ (∀ x ∈ work, 0 ≤ x ∧ x < g.n) ∧ (∀ x ∈ nodes, 0 ≤ x ∧ x < g.n) ∧ (work ≠ [] ∨ nodes ≠ []) ∧ nodes.length + (unseen seen + work.length) ≤ 40 ∧
    visit g nx (unseen seen + work.length) seen work nodes = N
  refine loop_rule I g.n.toNat ⟨_, _, _, _, _, ?_, rfl, ini, by simp, ?_, (fun x hx => by cases hx), .inl (by simp), ?_, ?_⟩ ?_
  · rw [List.length_singleton, hun]
  · intro x hx
    have : x = from_ := by simpa using hx
    rw [this]; exact hn
  · rw [List.length_singleton, hun, List.length_nil]; omega
  · rw [List.length_singleton, hun]; exact hN
  clear ini hσ σ0 hun hN hkid
  rintro m fr τ ⟨seen, vw, work, vn, nodes, rfl, rfl, fi, hsl, hwr, hnr, hwn, hcap, hvis⟩
  have hlw := fi.two.1.len
  simp only [go_sem, Option.isSome_some, ↓reduceIte, if_true, if_false, Nat.reduceEqDiff, Nat.reduceAdd, Nat.reduceMul, Nat.reduceSub, Nat.reduceLT, Nat.reduceLeDiff, Nat.reduceDiv, Nat.reduceMod, Nat.reduceBEq, Int.reduceNeg, Int.reduceEq, Int.reduceNe, Int.reduceLT, Int.reduceLE, Int.reduceToNat, Int.reduceAdd, Int.reduceSub, Int.reduceMul, reduceCtorEq, decide_true, decide_false, Nat.zero_add, Nat.add_zero, Nat.zero_mul, Nat.sub_zero, Int.toNat_natCast, true_and, and_true, false_and, and_false, ne_eq, not_false_eq_true, not_true_eq_false, beq_self_eq_true, Bool.false_eq_true, Nat.le_refl, Nat.zero_le, hlw]
  refine .intro (fun hw => ?_) (fun hw => ?_)
  · obtain ⟨at_, rest, rfl⟩ : ∃ a r, work = a :: r := by
      cases work with
      | nil => simp at hw
      | cons a r => exact ⟨a, r, rfl⟩
    obtain ⟨id, ver, off, xs, rfl, acc⟩ := fi.two.1.at (by simp [ints])
    have hat := hwr at_ (by simp)
    have x3 : xs[off]? = some [.sc (.int .i64 at_)] := acc.get (i := 0) rfl
    have e0 : (0 : Int) < ((rest.length + 1 : Nat) : Int) := by omega
    have en : (ints (at_ :: rest)).length = rest.length + 1 := by simp [ints]
    rw [en] at fi
    simp only [go_sem, Option.isSome_some, ↓reduceIte, if_true, if_false, Nat.reduceEqDiff, Nat.reduceAdd, Nat.reduceMul, Nat.reduceSub, Nat.reduceLT, Nat.reduceLeDiff, Nat.reduceDiv, Nat.reduceMod, Nat.reduceBEq, Int.reduceNeg, Int.reduceEq, Int.reduceNe, Int.reduceLT, Int.reduceLE, Int.reduceToNat, Int.reduceAdd, Int.reduceSub, Int.reduceMul, reduceCtorEq, decide_true, decide_false, Nat.zero_add, Nat.add_zero, Nat.zero_mul, Nat.sub_zero, Int.toNat_natCast, true_and, and_true, false_and, and_false, ne_eq, not_false_eq_true, not_true_eq_false, beq_self_eq_true, Bool.false_eq_true, Nat.le_refl, Nat.zero_le, acc.row, x3, en, e0, rowAt_get fi.gw]
    intro id2 hid2
    have fi2 := fi.fresh hid2 (.row 0 false 1 [[.sc (.int .i64 at_)]])
    simp only [go_sem, Option.isSome_some, ↓reduceIte, if_true, if_false, Nat.reduceEqDiff, Nat.reduceAdd, Nat.reduceMul, Nat.reduceSub, Nat.reduceLT, Nat.reduceLeDiff, Nat.reduceDiv, Nat.reduceMod, Nat.reduceBEq, Int.reduceNeg, Int.reduceEq, Int.reduceNe, Int.reduceLT, Int.reduceLE, Int.reduceToNat, Int.reduceAdd, Int.reduceSub, Int.reduceMul, reduceCtorEq, decide_true, decide_false, Nat.zero_add, Nat.add_zero, Nat.zero_mul, Nat.sub_zero, Int.toNat_natCast, true_and, and_true, false_and, and_false, ne_eq, not_false_eq_true, not_true_eq_false, beq_self_eq_true, Bool.false_eq_true, Nat.le_refl, Nat.zero_le]
    simp only [List.length_cons] at hcap
    refine acc_append fi2.two.2 (by simp only [ints_len, List.length_cons, List.length_nil]; omega) (by simp only [ints_len, List.length_cons, List.length_nil]; omega) fun vn' τ2 c1 c2 => ?_
    have ew : [[AVal.sc (.int .i64 at_)]] = ints [at_] := rfl
    rw [ew, ← ints_app] at c1
    have gw2 : τ2.get wid = some (.row 0 false 3 [[vn, .sl xid 0 0 g.n.toNat 1, .b true]]) := by rw [c2 wid (by simp), fi2.gw]
    have hkn := c1.known
    simp only [go_sem, Option.isSome_some, ↓reduceIte, if_true, if_false, Nat.reduceEqDiff, Nat.reduceAdd, Nat.reduceMul, Nat.reduceSub, Nat.reduceLT, Nat.reduceLeDiff, Nat.reduceDiv, Nat.reduceMod, Nat.reduceBEq, Int.reduceNeg, Int.reduceEq, Int.reduceNe, Int.reduceLT, Int.reduceLE, Int.reduceToNat, Int.reduceAdd, Int.reduceSub, Int.reduceMul, reduceCtorEq, decide_true, decide_false, Nat.zero_add, Nat.add_zero, Nat.zero_mul, Nat.sub_zero, Int.toNat_natCast, true_and, and_true, false_and, and_false, ne_eq, not_false_eq_true, not_true_eq_false, beq_self_eq_true, Bool.false_eq_true, Nat.le_refl, Nat.zero_le, rowAt_get gw2, hkn]
    have fi3 := fi2.setW c1 c2
    clear fi2 c1 c2 hid2 gw2 hkn
    unfold op21_66
    simp only [go_sem, Option.isSome_some, ↓reduceIte, if_true, if_false, Nat.reduceEqDiff, Nat.reduceAdd, Nat.reduceMul, Nat.reduceSub, Nat.reduceLT, Nat.reduceLeDiff, Nat.reduceDiv, Nat.reduceMod, Nat.reduceBEq, Int.reduceNeg, Int.reduceEq, Int.reduceNe, Int.reduceLT, Int.reduceLE, Int.reduceToNat, Int.reduceAdd, Int.reduceSub, Int.reduceMul, reduceCtorEq, decide_true, decide_false, Nat.zero_add, Nat.add_zero, Nat.zero_mul, Nat.sub_zero, Int.toNat_natCast, true_and, and_true, false_and, and_false, ne_eq, not_false_eq_true, not_true_eq_false, beq_self_eq_true, Bool.false_eq_true, Nat.le_refl, Nat.zero_le, rowAt_get fi3.gw, rowAt_get fi3.gg, rowAt_get fi3.gf]
    refine goodD_imm (hpn at_) rfl ?_
    have l3 : at_.toNat < g.n.toNat := by omega
    have l4 : at_ < (g.n.toNat : Int) := by omega
    have x4 := nextRows_get nx nodes hat.1 l3
    have hsx := nextRows_set nx nodes (n := g.n.toNat) hat.1 l3
    have l5 := hat.1
    simp only [go_sem, Option.isSome_some, ↓reduceIte, if_true, if_false, Nat.reduceEqDiff, Nat.reduceAdd, Nat.reduceMul, Nat.reduceSub, Nat.reduceLT, Nat.reduceLeDiff, Nat.reduceDiv, Nat.reduceMod, Nat.reduceBEq, Int.reduceNeg, Int.reduceEq, Int.reduceNe, Int.reduceLT, Int.reduceLE, Int.reduceToNat, Int.reduceAdd, Int.reduceSub, Int.reduceMul, reduceCtorEq, decide_true, decide_false, Nat.zero_add, Nat.add_zero, Nat.zero_mul, Nat.sub_zero, Int.toNat_natCast, true_and, and_true, false_and, and_false, ne_eq, not_false_eq_true, not_true_eq_false, beq_self_eq_true, Bool.false_eq_true, Nat.le_refl, Nat.zero_le, l5, l4, rowAt_get fi3.gx, x4, hsx]
    have fi4 := fi3.setX (nextRows nx (nodes ++ [at_]) g.n.toNat)
    have x5 : (nextRows nx (nodes ++ [at_]) g.n.toNat)[at_.toNat]? = some [.lst (ints (nx at_))] := by
      rw [nextRows_get nx _ hat.1 l3]; simp
    simp only [go_sem, Option.isSome_some, ↓reduceIte, if_true, if_false, Nat.reduceEqDiff, Nat.reduceAdd, Nat.reduceMul, Nat.reduceSub, Nat.reduceLT, Nat.reduceLeDiff, Nat.reduceDiv, Nat.reduceMod, Nat.reduceBEq, Int.reduceNeg, Int.reduceEq, Int.reduceNe, Int.reduceLT, Int.reduceLE, Int.reduceToNat, Int.reduceAdd, Int.reduceSub, Int.reduceMul, reduceCtorEq, decide_true, decide_false, Nat.zero_add, Nat.add_zero, Nat.zero_mul, Nat.sub_zero, Int.toNat_natCast, true_and, and_true, false_and, and_false, ne_eq, not_false_eq_true, not_true_eq_false, beq_self_eq_true, Bool.false_eq_true, Nat.le_refl, Nat.zero_le, rowAt_get fi4.gw, l5, l4, rowAt_get fi4.gx, x5]
    have hl240 := hnxl at_
    have hends := hnx at_
    have hendse := hnxe at_
    have hvis' : visit g nx (unseen seen + rest.length) ((nx at_).foldl (enq g) (seen, at_ :: rest)).1 ((nx at_).foldl (enq g) (seen, at_ :: rest)).2.tail (nodes ++ [at_]) = N := by
      have e : unseen seen + (at_ :: rest).length = (unseen seen + rest.length) + 1 := by simp; omega
      rw [e] at hvis
      exact hvis
    have hinv0 : ∀ k, EnqInv g (seen, at_ :: rest) (((nx at_).take k).foldl (enq g) (seen, at_ :: rest)) := fun k =>
      enqs_inv _ ⟨rfl, rfl, ⟨[], by simp⟩, fun x hx => .inl hx⟩ hsl fun e he => hends e (List.mem_of_mem_take he)
    clear hpn x4 hsx x5 hvis fi3 fi
    generalize hl : nx at_ = l at *
    let J : Nat → Fr → Store → Prop := fun m fr τ => ∃ (j : Nat) (seen' : List Bool) (vw' : AVal) (work' : List Int), j ≤ l.length ∧ m = l.length - j ∧
      fr = [(1, .lst (bools down)), (4, .ptr gid 0 0 0), (8, .ptr rid 0 0 0), (9, .ptr fid 0 0 0), (10, .ptr wid 0 0 0), (11, .sl sid 0 0 g.n.toNat 1), (12, vw'), (79, .lst (ints l)), (80, .i l.length), (81, .i j)] ∧
      FInv g b gid rid fid wid xid sid τ seen' vw' work' vn' (nodes ++ [at_]) (nextRows nx (nodes ++ [at_]) g.n.toNat) ∧ (l.take j).foldl (enq g) (seen, at_ :: rest) = (seen', work')
    refine loop_rule J l.length ⟨0, _, _, _, by omega, rfl, rfl, fi4, rfl⟩ ?_
    clear fi4
    rintro m fr τ4 ⟨j, seen', vw', work', hj, rfl, rfl, fi, hfold⟩
    simp only [go_sem, Option.isSome_some, ↓reduceIte, if_true, if_false, Nat.reduceEqDiff, Nat.reduceAdd, Nat.reduceMul, Nat.reduceSub, Nat.reduceLT, Nat.reduceLeDiff, Nat.reduceDiv, Nat.reduceMod, Nat.reduceBEq, Int.reduceNeg, Int.reduceEq, Int.reduceNe, Int.reduceLT, Int.reduceLE, Int.reduceToNat, Int.reduceAdd, Int.reduceSub, Int.reduceMul, reduceCtorEq, decide_true, decide_false, Nat.zero_add, Nat.add_zero, Nat.zero_mul, Nat.sub_zero, Int.toNat_natCast, true_and, and_true, false_and, and_false, ne_eq, not_false_eq_true, not_true_eq_false, beq_self_eq_true, Bool.false_eq_true, Nat.le_refl, Nat.zero_le]
    refine .intro (fun hjl => ?_) (fun hjl => ?_)
    · have hjl' : j < l.length := by omega
      have x6 : (ints l)[j]? = some [.sc (.int .i64 l[j])] := ints_get (List.getElem?_eq_getElem hjl')
      have htake : (l.take (j + 1)).foldl (enq g) (seen, at_ :: rest) = enq g (seen', work') l[j] := by
        rw [List.take_succ_eq_append_getElem hjl', List.foldl_append, hfold]; rfl
      have he := hends l[j] (List.getElem_mem hjl')
      have hee := hendse l[j] (List.getElem_mem hjl')
      have hiv := hinv0 j
      rw [hfold] at hiv
      generalize l[j] = e at *
      have n4 : (0 : Int) ≤ j := by omega
      simp only [go_sem, Option.isSome_some, ↓reduceIte, if_true, if_false, Nat.reduceEqDiff, Nat.reduceAdd, Nat.reduceMul, Nat.reduceSub, Nat.reduceLT, Nat.reduceLeDiff, Nat.reduceDiv, Nat.reduceMod, Nat.reduceBEq, Int.reduceNeg, Int.reduceEq, Int.reduceNe, Int.reduceLT, Int.reduceLE, Int.reduceToNat, Int.reduceAdd, Int.reduceSub, Int.reduceMul, reduceCtorEq, decide_true, decide_false, Nat.zero_add, Nat.add_zero, Nat.zero_mul, Nat.sub_zero, Int.toNat_natCast, true_and, and_true, false_and, and_false, ne_eq, not_false_eq_true, not_true_eq_false, beq_self_eq_true, Bool.false_eq_true, Nat.le_refl, Nat.zero_le, n4, x6, rowAt_get fi.gg]
      refine good_imm (ends_ok g e hee) rfl ?_
      have hsl' : seen'.length = g.n.toNat := hiv.len.trans hsl
      have hi1 : (g.ends e).2.1.toNat < seen'.length := by omega
      have hi2 : (g.ends e).2.1 < (g.n.toNat : Int) := by omega
      have hi3 := he.1
      have x7 : (bools seen')[(g.ends e).2.1.toNat]? = some [.sc (.bool (seen'.getD (g.ends e).2.1.toNat true))] := bools_get (by simp [hi1])
      have w4 : IntKind.i64.wrap ((j : Int) + 1) = ((j + 1 : Nat) : Int) := by rw [wrap_id (by omega) (by omega)]; rfl
      simp only [go_sem, Option.isSome_some, ↓reduceIte, if_true, if_false, Nat.reduceEqDiff, Nat.reduceAdd, Nat.reduceMul, Nat.reduceSub, Nat.reduceLT, Nat.reduceLeDiff, Nat.reduceDiv, Nat.reduceMod, Nat.reduceBEq, Int.reduceNeg, Int.reduceEq, Int.reduceNe, Int.reduceLT, Int.reduceLE, Int.reduceToNat, Int.reduceAdd, Int.reduceSub, Int.reduceMul, reduceCtorEq, decide_true, decide_false, Nat.zero_add, Nat.add_zero, Nat.zero_mul, Nat.sub_zero, Int.toNat_natCast, true_and, and_true, false_and, and_false, ne_eq, not_false_eq_true, not_true_eq_false, beq_self_eq_true, Bool.false_eq_true, Nat.le_refl, Nat.zero_le, hi3, hi2, rowAt_get fi.gs, x7]
      cases hse : seen'.getD (g.ends e).2.1.toNat true with
      | true =>
        simp only [go_sem, Option.isSome_some, ↓reduceIte, if_true, if_false, Nat.reduceEqDiff, Nat.reduceAdd, Nat.reduceMul, Nat.reduceSub, Nat.reduceLT, Nat.reduceLeDiff, Nat.reduceDiv, Nat.reduceMod, Nat.reduceBEq, Int.reduceNeg, Int.reduceEq, Int.reduceNe, Int.reduceLT, Int.reduceLE, Int.reduceToNat, Int.reduceAdd, Int.reduceSub, Int.reduceMul, reduceCtorEq, decide_true, decide_false, Nat.zero_add, Nat.add_zero, Nat.zero_mul, Nat.sub_zero, Int.toNat_natCast, true_and, and_true, false_and, and_false, ne_eq, not_false_eq_true, not_true_eq_false, beq_self_eq_true, Bool.false_eq_true, Nat.le_refl, Nat.zero_le, w4]
        refine back_of (l.length - (j + 1)) (Nat.sub_lt_sub_left hjl' (Nat.lt_succ_self j)) ⟨j + 1, seen', vw', work', hjl', rfl, rfl, fi, ?_⟩
        rw [htake]; unfold enq; rw [if_pos hse]
      | false =>
        have hen : enq g (seen', work') e = (seen'.set (g.ends e).2.1.toNat true, work' ++ [(g.ends e).2.1]) := by unfold enq; rw [if_neg (by rw [hse]; simp)]
        have hrs : (bools seen').set (g.ends e).2.1.toNat [AVal.sc (.bool true)] = bools (seen'.set (g.ends e).2.1.toNat true) := (bools_set _ _ _).symm
        rw [hse] at x7
        simp only [go_sem, Option.isSome_some, ↓reduceIte, if_true, if_false, Nat.reduceEqDiff, Nat.reduceAdd, Nat.reduceMul, Nat.reduceSub, Nat.reduceLT, Nat.reduceLeDiff, Nat.reduceDiv, Nat.reduceMod, Nat.reduceBEq, Int.reduceNeg, Int.reduceEq, Int.reduceNe, Int.reduceLT, Int.reduceLE, Int.reduceToNat, Int.reduceAdd, Int.reduceSub, Int.reduceMul, reduceCtorEq, decide_true, decide_false, Nat.zero_add, Nat.add_zero, Nat.zero_mul, Nat.sub_zero, Int.toNat_natCast, true_and, and_true, false_and, and_false, ne_eq, not_false_eq_true, not_true_eq_false, beq_self_eq_true, Bool.false_eq_true, Nat.le_refl, Nat.zero_le, hi3, hi2, rowAt_get fi.gs, x7, hrs]
        have fi5 := fi.setS (seen'.set (g.ends e).2.1.toNat true)
        intro id3 hid3
        have fi6 := fi5.fresh hid3 (.row 0 false 1 [[.sc (.int .i64 (g.ends e).2.1)]])
        have hwl : work'.length ≤ 41 := by have := hiv.mea; simp only [List.length_cons] at this; omega
        simp only [go_sem, Option.isSome_some, ↓reduceIte, if_true, if_false, Nat.reduceEqDiff, Nat.reduceAdd, Nat.reduceMul, Nat.reduceSub, Nat.reduceLT, Nat.reduceLeDiff, Nat.reduceDiv, Nat.reduceMod, Nat.reduceBEq, Int.reduceNeg, Int.reduceEq, Int.reduceNe, Int.reduceLT, Int.reduceLE, Int.reduceToNat, Int.reduceAdd, Int.reduceSub, Int.reduceMul, reduceCtorEq, decide_true, decide_false, Nat.zero_add, Nat.add_zero, Nat.zero_mul, Nat.sub_zero, Int.toNat_natCast, true_and, and_true, false_and, and_false, ne_eq, not_false_eq_true, not_true_eq_false, beq_self_eq_true, Bool.false_eq_true, Nat.le_refl, Nat.zero_le]
        refine acc_append fi6.two.1 (by simp only [ints_len, List.length_cons, List.length_nil]; omega) (by simp only [ints_len, List.length_cons, List.length_nil]; omega) fun vw2 τ5 c1 c2 => ?_
        have ew : [[AVal.sc (.int .i64 (g.ends e).2.1)]] = ints [(g.ends e).2.1] := rfl
        rw [ew, ← ints_app] at c1
        simp only [go_sem, Option.isSome_some, ↓reduceIte, if_true, if_false, Nat.reduceEqDiff, Nat.reduceAdd, Nat.reduceMul, Nat.reduceSub, Nat.reduceLT, Nat.reduceLeDiff, Nat.reduceDiv, Nat.reduceMod, Nat.reduceBEq, Int.reduceNeg, Int.reduceEq, Int.reduceNe, Int.reduceLT, Int.reduceLE, Int.reduceToNat, Int.reduceAdd, Int.reduceSub, Int.reduceMul, reduceCtorEq, decide_true, decide_false, Nat.zero_add, Nat.add_zero, Nat.zero_mul, Nat.sub_zero, Int.toNat_natCast, true_and, and_true, false_and, and_false, ne_eq, not_false_eq_true, not_true_eq_false, beq_self_eq_true, Bool.false_eq_true, Nat.le_refl, Nat.zero_le, w4]
        refine back_of (l.length - (j + 1)) (Nat.sub_lt_sub_left hjl' (Nat.lt_succ_self j)) ⟨j + 1, _, vw2, _, hjl', rfl, rfl, fi6.setWork c1 c2, ?_⟩
        rw [htake, hen]
    · simp only [go_sem, Option.isSome_some, ↓reduceIte, if_true, if_false, Nat.reduceEqDiff, Nat.reduceAdd, Nat.reduceMul, Nat.reduceSub, Nat.reduceLT, Nat.reduceLeDiff, Nat.reduceDiv, Nat.reduceMod, Nat.reduceBEq, Int.reduceNeg, Int.reduceEq, Int.reduceNe, Int.reduceLT, Int.reduceLE, Int.reduceToNat, Int.reduceAdd, Int.reduceSub, Int.reduceMul, reduceCtorEq, decide_true, decide_false, Nat.zero_add, Nat.add_zero, Nat.zero_mul, Nat.sub_zero, Int.toNat_natCast, true_and, and_true, false_and, and_false, ne_eq, not_false_eq_true, not_true_eq_false, beq_self_eq_true, Bool.false_eq_true, Nat.le_refl, Nat.zero_le]
      have e : j = l.length := by omega
      subst e
      rw [List.take_length] at hfold
      have hiv := hinv0 l.length
      rw [List.take_length, hfold] at hiv
      rw [hfold] at hvis'
      obtain ⟨r, hr⟩ := hiv.pre
      have hrlen : 0 < (ints work').length := by rw [ints_len]; simp only at hr; rw [hr]; simp
      obtain ⟨id', ver', off', xs', rfl, acc'⟩ := fi.two.1.at hrlen
      have n6 : (1 : Int) ≤ (work'.length : Nat) := by rw [ints_len] at hrlen; omega
      have n7 : (work'.length : Int) ≤ (work'.length : Nat) := Int.le_refl _
      simp only [go_sem, Option.isSome_some, ↓reduceIte, if_true, if_false, Nat.reduceEqDiff, Nat.reduceAdd, Nat.reduceMul, Nat.reduceSub, Nat.reduceLT, Nat.reduceLeDiff, Nat.reduceDiv, Nat.reduceMod, Nat.reduceBEq, Int.reduceNeg, Int.reduceEq, Int.reduceNe, Int.reduceLT, Int.reduceLE, Int.reduceToNat, Int.reduceAdd, Int.reduceSub, Int.reduceMul, reduceCtorEq, decide_true, decide_false, Nat.zero_add, Nat.add_zero, Nat.zero_mul, Nat.sub_zero, Int.toNat_natCast, true_and, and_true, false_and, and_false, ne_eq, not_false_eq_true, not_true_eq_false, beq_self_eq_true, Bool.false_eq_true, Nat.le_refl, Nat.zero_le, n6, n7]
      have hpart := acc'.acc.part rfl (l := 1) (k := (ints work').length) (by omega) (Nat.le_refl _)
      have htl : ((ints work').drop 1).take ((ints work').length - 1) = ints work'.tail := by
        rw [List.take_of_length_le (by simp)]
        unfold ints
        rw [← List.map_drop, List.drop_one]
      rw [htl, ints_len] at hpart
      have fi7 := fi.setWork (σ' := τ4) hpart (fun _ _ => rfl)
      have hm : unseen seen' + work'.tail.length = unseen seen + rest.length := by
        have := hiv.mea
        simp only [List.length_cons] at this
        rw [List.length_tail]; omega
      refine back_of (unseen seen' + work'.tail.length) (by rw [hm]; omega) ⟨seen', _, work'.tail, vn', nodes ++ [at_], rfl, rfl, fi7, hiv.len.trans hsl, ?_, ?_, .inr (by simp), ?_, ?_⟩
      · intro x hx
        rcases hiv.rng x (List.mem_of_mem_tail hx) with h | h
        · exact hwr x h
        · exact h
      · intro x hx
        rcases List.mem_append.1 hx with h | h
        · exact hnr x h
        · have : x = at_ := by simpa using h
          rw [this]; exact hat
      · rw [hm]; simp only [List.length_append, List.length_cons, List.length_nil]; omega
      · rw [hm]; exact hvis'
  · have hw0 : work = [] := List.eq_nil_of_length_eq_zero (by omega)
    subst hw0
    have hne : nodes ≠ [] := by rcases hwn with h | h; exact absurd rfl h; exact h
    have hNn : nodes = N := by
      cases hu : unseen seen with
      | zero => rw [hu] at hvis; exact hvis
      | succ k => rw [hu] at hvis; exact hvis
    subst hNn
    simp only [go_sem, Option.isSome_some, ↓reduceIte, if_true, if_false, Nat.reduceEqDiff, Nat.reduceAdd, Nat.reduceMul, Nat.reduceSub, Nat.reduceLT, Nat.reduceLeDiff, Nat.reduceDiv, Nat.reduceMod, Nat.reduceBEq, Int.reduceNeg, Int.reduceEq, Int.reduceNe, Int.reduceLT, Int.reduceLE, Int.reduceToNat, Int.reduceAdd, Int.reduceSub, Int.reduceMul, reduceCtorEq, decide_true, decide_false, Nat.zero_add, Nat.add_zero, Nat.zero_mul, Nat.sub_zero, Int.toNat_natCast, true_and, and_true, false_and, and_false, ne_eq, not_false_eq_true, not_true_eq_false, beq_self_eq_true, Bool.false_eq_true, Nat.le_refl, Nat.zero_le, rowAt_get fi.gw]
    have hnl : 0 < nodes.length := List.length_pos_iff.2 hne
    obtain ⟨id, ver, off, xs, rfl, acc⟩ := fi.two.2.at (by rw [ints_len]; exact hnl)
    rw [ints_len]
    have hb1 : b.length = (g.n.toNat - 1) + 1 := by omega
    refine find_sort hb1 (by omega) (fun x hx => ⟨(hnr x hx).1, by have := hnr x hx; omega⟩) acc fi.gf (by simp) fun τ6 c1 c2 => ?_
    have gw6 : τ6.get wid = some (.row 0 false 3 [[.sl id ver off nodes.length 1, .sl xid 0 0 g.n.toNat 1, .b true]]) := by rw [c2 wid (by simp), fi.gw, ints_len]
    have gx6 : τ6.get xid = some (.row 0 false 1 (nextRows nx nodes g.n.toNat)) := by rw [c2 xid (by simp), fi.gx]
    have gr6 : τ6.get rid = some (.row 0 false 3 [[.nils, .nils, .b false]]) := by rw [c2 rid (by simp), fi.gr]
    simp only [go_sem, Option.isSome_some, ↓reduceIte, if_true, if_false, Nat.reduceEqDiff, Nat.reduceAdd, Nat.reduceMul, Nat.reduceSub, Nat.reduceLT, Nat.reduceLeDiff, Nat.reduceDiv, Nat.reduceMod, Nat.reduceBEq, Int.reduceNeg, Int.reduceEq, Int.reduceNe, Int.reduceLT, Int.reduceLE, Int.reduceToNat, Int.reduceAdd, Int.reduceSub, Int.reduceMul, reduceCtorEq, decide_true, decide_false, Nat.zero_add, Nat.add_zero, Nat.zero_mul, Nat.sub_zero, Int.toNat_natCast, true_and, and_true, false_and, and_false, ne_eq, not_false_eq_true, not_true_eq_false, beq_self_eq_true, Bool.false_eq_true, Nat.le_refl, Nat.zero_le, rowAt_get gw6, rowAt_get gr6]
    rw [hfin]
    have hd := fi.ne
    simp at hd
    have hrx : xid ≠ rid := fun e => hd.2.1.2.2.1 e.symm
    have hrow : Ab.rowAt (τ6.set rid (.row 0 false 3 [[.sl id ver off nodes.length 1, .sl xid 0 0 g.n.toNat 1, .b true]])) xid 0 = some (false, 1, nextRows nx nodes g.n.toNat) := by rw [rowAt_ne hrx, rowAt_get gx6]
    exact out_agg3 (acc_out (c1.other (id := rid) (by simp) _) (ints_sc _)) (out_sl_imm (m := 1) hrow (by rw [nextRows_len]; omega) (by rw [List.drop_zero, List.take_of_length_le (by rw [nextRows_len]; exact Nat.le_refl _)]) (fun y hy c hc => nextRows_all _ _ _ y hy c hc 1)) out_sc
end Go.Proofs

set_option linter.unusedSimpArgs false
set_option linter.unusedVariables false
namespace Go.Proofs
open Go.Ab

/-! ### The nodes that shortest ways pass -/
inductive Rch (g : Gr) (nx : Int → List Int) (from_ : Int) : Int → Prop
  | refl : Rch g nx from_ from_
  | step {x e : Int} : Rch g nx from_ x → e ∈ nx x → Rch g nx from_ (g.ends e).2.1
structure VInv (g : Gr) (nx : Int → List Int) (from_ : Int) (seen : List Bool) (work nodes : List Int) : Prop where
  len : seen.length = g.n.toNat
  seen : ∀ x, 0 ≤ x → x < g.n → (seen.getD x.toNat true = true ↔ x ∈ work ∨ x ∈ nodes)
  nodup : (nodes ++ work).Nodup
  rng : ∀ x, x ∈ work ∨ x ∈ nodes → 0 ≤ x ∧ x < g.n
  reach : ∀ x, x ∈ work ∨ x ∈ nodes → Rch g nx from_ x
  src : from_ ∈ work ∨ from_ ∈ nodes
structure VFin (g : Gr) (nx : Int → List Int) (from_ : Int) (N : List Int) : Prop where
  nodup : N.Nodup
  rng : ∀ x ∈ N, 0 ≤ x ∧ x < g.n
  src : from_ ∈ N
  closed : ∀ x ∈ N, ∀ e ∈ nx x, (g.ends e).2.1 ∈ N
  reach : ∀ x ∈ N, Rch g nx from_ x

theorem enq_vinv {g : Gr} {nx : Int → List Int} {from_ : Int} {seen : List Bool} {work nodes : List Int} (h : VInv g nx from_ seen work nodes) {x e : Int} (hx : Rch g nx from_ x) (he : e ∈ nx x) (hr : 0 ≤ (g.ends e).2.1 ∧ (g.ends e).2.1 < g.n) :
    VInv g nx from_ (enq g (seen, work) e).1 (enq g (seen, work) e).2 nodes ∧ ((g.ends e).2.1 ∈ (enq g (seen, work) e).2 ∨ (g.ends e).2.1 ∈ nodes) ∧ ∃ r, (enq g (seen, work) e).2 = work ++ r := by
  have hb : Rch g nx from_ (g.ends e).2.1 := .step hx he
  unfold enq
  generalize (g.ends e).2.1 = b at *
  have hlt : b.toNat < seen.length := by rw [h.len]; omega
  simp only
  split
  · rename_i hs
    exact ⟨h, (h.seen b hr.1 hr.2).1 hs, [], by simp⟩
  · rename_i hs
    have hnot : ¬ (b ∈ work ∨ b ∈ nodes) := fun hm => hs ((h.seen b hr.1 hr.2).2 hm)
    refine ⟨⟨by simpa using h.len, fun y y0 y1 => ?_, ?_, fun y hy => ?_, fun y hy => ?_, ?_⟩, .inl (by simp), [b], rfl⟩
    · have e1 : (seen.set b.toNat true).getD y.toNat true = if y = b then true else seen.getD y.toNat true := by
        by_cases e : y = b
        · subst e; simp [hlt]
        · rw [if_neg e]
          have : b.toNat ≠ y.toNat := by omega
          simp [List.getElem?_set_ne this]
      rw [e1]
      by_cases e : y = b
      · simp [e]
      · rw [if_neg e, h.seen y y0 y1]; simp [e]
    · have := h.nodup
      rw [← List.append_assoc, List.nodup_append]
      refine ⟨this, by simp, fun a ha c hc => ?_⟩
      have hc' : c = b := by simpa using hc
      rw [hc']
      intro e; subst e
      rcases List.mem_append.1 ha with ha | ha
      · exact hnot (.inr ha)
      · exact hnot (.inl ha)
    · rcases hy with hy | hy
      · rcases List.mem_append.1 hy with hy | hy
        · exact h.rng y (.inl hy)
        · have : y = b := by simpa using hy
          rw [this]; exact hr
      · exact h.rng y (.inr hy)
    · rcases hy with hy | hy
      · rcases List.mem_append.1 hy with hy | hy
        · exact h.reach y (.inl hy)
        · have : y = b := by simpa using hy
          rw [this]; exact hb
      · exact h.reach y (.inr hy)
    · rcases h.src with hs | hs
      · exact .inl (List.mem_append_left _ hs)
      · exact .inr hs

theorem enqs_vinv {g : Gr} {nx : Int → List Int} {from_ x : Int} (hx : Rch g nx from_ x) {nodes : List Int} : ∀ (l : List Int) (seen : List Bool) (work : List Int), (∀ e ∈ l, e ∈ nx x) → (∀ e ∈ l, 0 ≤ (g.ends e).2.1 ∧ (g.ends e).2.1 < g.n) → VInv g nx from_ seen work nodes →
    VInv g nx from_ (l.foldl (enq g) (seen, work)).1 (l.foldl (enq g) (seen, work)).2 nodes ∧ (∀ e ∈ l, (g.ends e).2.1 ∈ (l.foldl (enq g) (seen, work)).2 ∨ (g.ends e).2.1 ∈ nodes) ∧ ∃ r, (l.foldl (enq g) (seen, work)).2 = work ++ r
  | [], seen, work, _, _, h => ⟨h, (fun e he => by cases he), [], by simp⟩
  | e :: r, seen, work, hl, hr, h => by
    obtain ⟨h1, h2, r1, h3⟩ := enq_vinv h hx (hl e (by simp)) (hr e (by simp))
    obtain ⟨k1, k2, r2, k3⟩ := enqs_vinv hx r (enq g (seen, work) e).1 (enq g (seen, work) e).2 (fun y hy => hl y (by simp [hy])) (fun y hy => hr y (by simp [hy])) h1
    rw [List.foldl_cons]
    refine ⟨k1, fun y hy => ?_, r1 ++ r2, ?_⟩
    · rcases List.mem_cons.1 hy with hy | hy
      · rw [hy]
        rcases h2 with h2 | h2
        · refine .inl ?_
          rw [k3]; exact List.mem_append_left _ h2
        · exact .inr h2
      · exact k2 y hy
    · rw [k3, h3, List.append_assoc]

theorem visit_fin {g : Gr} {nx : Int → List Int} {from_ : Int} (hr : ∀ x e, e ∈ nx x → 0 ≤ (g.ends e).2.1 ∧ (g.ends e).2.1 < g.n) : ∀ (f : Nat) (seen : List Bool) (work nodes : List Int), VInv g nx from_ seen work nodes →
    (∀ x ∈ nodes, ∀ e ∈ nx x, (g.ends e).2.1 ∈ work ∨ (g.ends e).2.1 ∈ nodes) → unseen seen + work.length ≤ f → VFin g nx from_ (visit g nx f seen work nodes) := by
  intro f
  induction f with
  | zero =>
    intro seen work nodes h hc hf
    have : work = [] := List.eq_nil_of_length_eq_zero (by omega)
    subst this
    unfold visit
    exact ⟨by simpa using h.nodup, fun x hx => h.rng x (.inr hx), by simpa using h.src, fun x hx e he => by simpa using hc x hx e he, fun x hx => h.reach x (.inr hx)⟩
  | succ f ih =>
    intro seen work nodes h hc hf
    unfold visit
    cases work with
    | nil => exact ⟨by simpa using h.nodup, fun x hx => h.rng x (.inr hx), by simpa using h.src, fun x hx e he => by simpa using hc x hx e he, fun x hx => h.reach x (.inr hx)⟩
    | cons at_ rest =>
      simp only
      have hat : Rch g nx from_ at_ := h.reach at_ (.inl (by simp))
      obtain ⟨k1, k2, r, k3⟩ := enqs_vinv hat (nx at_) seen (at_ :: rest) (fun _ he => he) (fun e he => hr at_ e he) h
      have hmea := (enqs_inv (nx at_) (s0 := (seen, at_ :: rest)) ⟨rfl, rfl, ⟨[], by simp⟩, fun x hx => .inl hx⟩ h.len (fun e he => hr at_ e he)).mea
      generalize (nx at_).foldl (enq g) (seen, at_ :: rest) = s at *
      obtain ⟨sn, wk⟩ := s
      simp only at k1 k2 k3 hmea ⊢
      subst k3
      simp only [List.cons_append, List.tail_cons]
      have mv : ∀ y, (y ∈ at_ :: (rest ++ r) ∨ y ∈ nodes) ↔ (y ∈ rest ++ r ∨ y ∈ nodes ++ [at_]) := fun y => by
        simp only [List.mem_cons, List.mem_append, List.not_mem_nil, or_false]
        constructor
        · rintro ((h | h | h) | h)
          · exact .inr (.inr h)
          · exact .inl (.inl h)
          · exact .inl (.inr h)
          · exact .inr (.inl h)
        · rintro ((h | h) | (h | h))
          · exact .inl (.inr (.inl h))
          · exact .inl (.inr (.inr h))
          · exact .inr h
          · exact .inl (.inl h)
      refine ih sn (rest ++ r) (nodes ++ [at_]) ⟨k1.len, fun y y0 y1 => (k1.seen y y0 y1).trans (mv y), ?_, fun y hy => k1.rng y ((mv y).2 hy), fun y hy => k1.reach y ((mv y).2 hy), (mv from_).1 k1.src⟩ (fun y hy e he => ?_) ?_
      · have := k1.nodup
        rw [List.append_assoc]
        simpa using this
      · rw [← mv]
        rcases List.mem_append.1 hy with hy | hy
        · rcases hc y hy e he with h1 | h1
          · refine .inl ?_
            have : (g.ends e).2.1 ∈ (at_ :: rest) ++ r := List.mem_append_left _ h1
            simpa using this
          · exact .inr h1
        · have : y = at_ := by simpa using hy
          subst this
          simpa using k2 e he
      · simp only [List.length_cons, List.cons_append, List.length_append] at hmea hf ⊢; omega

theorem nodesOf_fin {g : Gr} {nx : Int → List Int} {from_ : Int} (hn : 0 ≤ from_ ∧ from_ < g.n) (hr : ∀ x e, e ∈ nx x → 0 ≤ (g.ends e).2.1 ∧ (g.ends e).2.1 < g.n) : VFin g nx from_ (nodesOf g nx from_) := by
  have h1 : from_.toNat < g.n.toNat := by omega
  refine visit_fin hr _ _ _ _ ⟨by simp, fun x x0 x1 => ?_, by simp, fun x hx => ?_, fun x hx => ?_, by simp⟩ (fun x hx => by cases hx) ?_
  · have h2 : x.toNat < g.n.toNat := by omega
    by_cases e : x = from_
    · subst e; simp [h1]
    · have : from_.toNat ≠ x.toNat := by omega
      rw [List.getD_eq_getElem?_getD, List.getElem?_set_ne this]
      simp [h2, e]
  · have : x = from_ := by simpa using hx
    rw [this]; exact hn
  · have : x = from_ := by simpa using hx
    rw [this]; exact .refl
  · have := unseen_set (seen := List.replicate g.n.toNat false) (i := from_.toNat) (by simpa using h1) (by simp [h1])
    rw [List.length_singleton, this]
    simp [unseen]
theorem vfin_len {g : Gr} {nx : Int → List Int} {from_ : Int} {N : List Int} (h : VFin g nx from_ N) : N.length ≤ g.n.toNat := by
  have : N ⊆ (List.range g.n.toNat).map (fun (i : Nat) => (i : Int)) := fun x hx => by
    have := h.rng x hx
    refine List.mem_map.2 ⟨x.toNat, List.mem_range.2 (by omega), by omega⟩
  have h2 := List.Nodup.length_le_of_subset h.nodup this
  simpa using h2
end Go.Proofs

set_option linter.unusedSimpArgs false
set_option linter.unusedVariables false
namespace Go.Proofs
open Go.Ab

def cntStep (g : Gr) (at_ : Int) (n : List Int) (e : Int) : List Int := n.set (g.ends e).2.1.toNat (if at0 n (g.ends e).2.1 + at0 n at_ < 1099511627776 then at0 n (g.ends e).2.1 + at0 n at_ else 1099511627776)
def cntAll (g : Gr) (nx : Int → List Int) (nodes : List Int) (n : List Int) : List Int := nodes.foldl (fun n at_ => (nx at_).foldl (cntStep g at_) n) n
def countOf (g : Gr) (down : List Bool) (from_ to : Int) : Int :=
  if refFrom g down to ≠ [] ∧ (0 ≤ from_ ∧ from_ < g.n) ∧ 0 ≤ at0 (refFrom g down to) from_ then
    at0 (cntAll g (nextOf g down (refFrom g down to)) (sortNd (refFrom g down to) (g.n.toNat - 1) (nodesOf g (nextOf g down (refFrom g down to)) from_)) ((List.replicate g.n.toNat 0).set from_.toNat 1)) to else 0
def CntOk (g : Gr) (n : List Int) : Prop := n.length = g.n.toNat ∧ ∀ x ∈ n, 0 ≤ x ∧ x ≤ 1099511627776
theorem CntOk.at {g : Gr} {n : List Int} (h : CntOk g n) {v : Int} (h0 : 0 ≤ v) (h1 : v < g.n) : 0 ≤ at0 n v ∧ at0 n v ≤ 1099511627776 := by
  have : v.toNat < n.length := by rw [h.1]; omega
  exact h.2 _ (by simp [this])
theorem CntOk.step {g : Gr} {n : List Int} (h : CntOk g n) {at_ e : Int} (ha : 0 ≤ at_ ∧ at_ < g.n) (he : 0 ≤ (g.ends e).2.1 ∧ (g.ends e).2.1 < g.n) : CntOk g (cntStep g at_ n e) := by
  have h1 := h.at ha.1 ha.2
  have h2 := h.at he.1 he.2
  refine ⟨by simpa [cntStep] using h.1, fun x hx => ?_⟩
  rcases List.mem_or_eq_of_mem_set hx with hx | hx
  · exact h.2 x hx
  · rw [hx]; split <;> omega
theorem count_ok (g : Gr) (down : List Bool) (from_ to : Int) : PGood Try.prog 10 [g.val, .lst (bools down), .i from_, .i to] (.i (countOf g down from_ to)) := by
  refine pgood_of_out 1 (good_of_wp isF10 (Nat.le_refl _) ?_)
  unfold ac10
  simp only [go_sem, Option.isSome_some, ↓reduceIte, if_true, if_false, Nat.reduceEqDiff, Nat.reduceAdd, Nat.reduceMul, Nat.reduceSub, Nat.reduceLT, Nat.reduceLeDiff, Nat.reduceDiv, Nat.reduceMod, Nat.reduceBEq, Int.reduceNeg, Int.reduceEq, Int.reduceNe, Int.reduceLT, Int.reduceLE, Int.reduceToNat, Int.reduceAdd, Int.reduceSub, Int.reduceMul, reduceCtorEq, decide_true, decide_false, Nat.zero_add, Nat.add_zero, Nat.zero_mul, Nat.sub_zero, Int.toNat_natCast, true_and, and_true, false_and, and_false, ne_eq, not_false_eq_true, not_true_eq_false, beq_self_eq_true, Bool.false_eq_true, Nat.le_refl, Nat.zero_le, Gr.val]
  intro gid hgid
  simp only [go_sem, Option.isSome_some, ↓reduceIte, if_true, if_false, Nat.reduceEqDiff, Nat.reduceAdd, Nat.reduceMul, Nat.reduceSub, Nat.reduceLT, Nat.reduceLeDiff, Nat.reduceDiv, Nat.reduceMod, Nat.reduceBEq, Int.reduceNeg, Int.reduceEq, Int.reduceNe, Int.reduceLT, Int.reduceLE, Int.reduceToNat, Int.reduceAdd, Int.reduceSub, Int.reduceMul, reduceCtorEq, decide_true, decide_false, Nat.zero_add, Nat.add_zero, Nat.zero_mul, Nat.sub_zero, Int.toNat_natCast, true_and, and_true, false_and, and_false, ne_eq, not_false_eq_true, not_true_eq_false, beq_self_eq_true, Bool.false_eq_true, Nat.le_refl, Nat.zero_le]
  refine good_imm (find_ok g down from_ to) rfl ?_
  unfold findVal
  have bnil := refFrom_nil (g := g) (down := down) (node := to)
  have hdef : countOf g down from_ to = if refFrom g down to ≠ [] ∧ (0 ≤ from_ ∧ from_ < g.n) ∧ 0 ≤ at0 (refFrom g down to) from_ then
    at0 (cntAll g (nextOf g down (refFrom g down to)) (sortNd (refFrom g down to) (g.n.toNat - 1) (nodesOf g (nextOf g down (refFrom g down to)) from_)) ((List.replicate g.n.toNat 0).set from_.toNat 1)) to else 0 := rfl
  generalize refFrom g down to = b at *
  by_cases hc : b ≠ [] ∧ (0 ≤ from_ ∧ from_ < g.n) ∧ 0 ≤ at0 b from_
  case neg =>
    rw [if_neg hc] at hdef ⊢
    simp only [go_sem, Option.isSome_some, ↓reduceIte, if_true, if_false, Nat.reduceEqDiff, Nat.reduceAdd, Nat.reduceMul, Nat.reduceSub, Nat.reduceLT, Nat.reduceLeDiff, Nat.reduceDiv, Nat.reduceMod, Nat.reduceBEq, Int.reduceNeg, Int.reduceEq, Int.reduceNe, Int.reduceLT, Int.reduceLE, Int.reduceToNat, Int.reduceAdd, Int.reduceSub, Int.reduceMul, reduceCtorEq, decide_true, decide_false, Nat.zero_add, Nat.add_zero, Nat.zero_mul, Nat.sub_zero, Int.toNat_natCast, true_and, and_true, false_and, and_false, ne_eq, not_false_eq_true, not_true_eq_false, beq_self_eq_true, Bool.false_eq_true, Nat.le_refl, Nat.zero_le]
    intro wid hwid
    simp only [go_sem, Option.isSome_some, ↓reduceIte, if_true, if_false, Nat.reduceEqDiff, Nat.reduceAdd, Nat.reduceMul, Nat.reduceSub, Nat.reduceLT, Nat.reduceLeDiff, Nat.reduceDiv, Nat.reduceMod, Nat.reduceBEq, Int.reduceNeg, Int.reduceEq, Int.reduceNe, Int.reduceLT, Int.reduceLE, Int.reduceToNat, Int.reduceAdd, Int.reduceSub, Int.reduceMul, reduceCtorEq, decide_true, decide_false, Nat.zero_add, Nat.add_zero, Nat.zero_mul, Nat.sub_zero, Int.toNat_natCast, true_and, and_true, false_and, and_false, ne_eq, not_false_eq_true, not_true_eq_false, beq_self_eq_true, Bool.false_eq_true, Nat.le_refl, Nat.zero_le]
    rw [hdef]; exact out_sc
  rw [if_pos hc] at hdef ⊢
  obtain ⟨hb, hn, hge⟩ := hc
  have gb : g.check.2 = 0 ∧ 0 ≤ to ∧ to < g.n := Decidable.byContradiction fun h => hb (bnil.2 h)
  obtain ⟨k1, k2, k3, k4⟩ := g.check_ok.1 gb.1
  have hok : g.Ok := ⟨k1, k2, k3, k4⟩
  have hnx : ∀ at_ e, e ∈ nextOf g down b at_ → 0 ≤ (g.ends e).2.1 ∧ (g.ends e).2.1 < g.n := fun at_ e he => (nextOf_mem hok he).2.2.1
  have hnxe : ∀ at_ e, e ∈ nextOf g down b at_ → e < 9223372036854775808 := fun at_ e he => by have := (nextOf_mem hok he).1; omega
  have hnxl : ∀ at_, (nextOf g down b at_).length ≤ 240 := fun at_ => by
    unfold nextOf
    split
    · exact Nat.le_trans (List.length_filter_le _ _) (by have := g.out_len at_; omega)
    · simp
  generalize nextOf g down b = nx at *
  have hfin := nodesOf_fin (nx := nx) hn hnx
  have hlen := vfin_len hfin
  generalize nodesOf g nx from_ = N at *
  have hperm := sortNd_perm (far := b) (k := g.n.toNat - 1) (nodes := N) (fun x hx => by have := hfin.rng x hx; omega)
  have hml : ∀ x ∈ sortNd b (g.n.toNat - 1) N, x ∈ N := fun x hx => hperm.mem_iff.1 hx
  have hsl := hperm.length_eq
  generalize sortNd b (g.n.toNat - 1) N = S at *
  simp only [go_sem, Option.isSome_some, ↓reduceIte, if_true, if_false, Nat.reduceEqDiff, Nat.reduceAdd, Nat.reduceMul, Nat.reduceSub, Nat.reduceLT, Nat.reduceLeDiff, Nat.reduceDiv, Nat.reduceMod, Nat.reduceBEq, Int.reduceNeg, Int.reduceEq, Int.reduceNe, Int.reduceLT, Int.reduceLE, Int.reduceToNat, Int.reduceAdd, Int.reduceSub, Int.reduceMul, reduceCtorEq, decide_true, decide_false, Nat.zero_add, Nat.add_zero, Nat.zero_mul, Nat.sub_zero, Int.toNat_natCast, true_and, and_true, false_and, and_false, ne_eq, not_false_eq_true, not_true_eq_false, beq_self_eq_true, Bool.false_eq_true, Nat.le_refl, Nat.zero_le]
  intro wid hwid
  have a1 : gid ≠ wid := fun e => by rw [← e] at hwid; simp at hwid
  have p1 : (0 : Int) ≤ g.n := by omega
  have p2 : g.n ≤ 9223372036854775807 := by omega
  have p3 : g.n.toNat * 8 ≤ 281474976710656 := by omega
  simp only [go_sem, Option.isSome_some, ↓reduceIte, if_true, if_false, Nat.reduceEqDiff, Nat.reduceAdd, Nat.reduceMul, Nat.reduceSub, Nat.reduceLT, Nat.reduceLeDiff, Nat.reduceDiv, Nat.reduceMod, Nat.reduceBEq, Int.reduceNeg, Int.reduceEq, Int.reduceNe, Int.reduceLT, Int.reduceLE, Int.reduceToNat, Int.reduceAdd, Int.reduceSub, Int.reduceMul, reduceCtorEq, decide_true, decide_false, Nat.zero_add, Nat.add_zero, Nat.zero_mul, Nat.sub_zero, Int.toNat_natCast, true_and, and_true, false_and, and_false, ne_eq, not_false_eq_true, not_true_eq_false, beq_self_eq_true, Bool.false_eq_true, Nat.le_refl, Nat.zero_le, rowAt_ne a1, p1, p2, p3]
  intro nid hnid
  have a2 : gid ≠ nid := fun e => by rw [← e, Store.get_set_ne _ _ a1] at hnid; simp at hnid
  have a3 : wid ≠ nid := fun e => by rw [← e] at hnid; simp at hnid
  have hz : List.replicate g.n.toNat [AVal.sc (.int .i64 0)] = ints (List.replicate g.n.toNat 0) := (ints_rep _ _).symm
  have q0 := hn.1
  have q1 : from_ < (g.n.toNat : Int) := by omega
  have q2 : from_.toNat < g.n.toNat := by omega
  have x2 : (ints (List.replicate g.n.toNat 0))[from_.toNat]? = some [.sc (.int .i64 0)] := ints_get (by simp [q2])
  have hset : (ints (List.replicate g.n.toNat 0)).set from_.toNat [AVal.sc (.int .i64 1)] = ints ((List.replicate g.n.toNat 0).set from_.toNat 1) := (ints_set _ _ _).symm
  rw [hz]
  simp only [go_sem, Option.isSome_some, ↓reduceIte, if_true, if_false, Nat.reduceEqDiff, Nat.reduceAdd, Nat.reduceMul, Nat.reduceSub, Nat.reduceLT, Nat.reduceLeDiff, Nat.reduceDiv, Nat.reduceMod, Nat.reduceBEq, Int.reduceNeg, Int.reduceEq, Int.reduceNe, Int.reduceLT, Int.reduceLE, Int.reduceToNat, Int.reduceAdd, Int.reduceSub, Int.reduceMul, reduceCtorEq, decide_true, decide_false, Nat.zero_add, Nat.add_zero, Nat.zero_mul, Nat.sub_zero, Int.toNat_natCast, true_and, and_true, false_and, and_false, ne_eq, not_false_eq_true, not_true_eq_false, beq_self_eq_true, Bool.false_eq_true, Nat.le_refl, Nat.zero_le, q0, q1, x2, hset, rowAt_ne a3]
  have ok0 : CntOk g ((List.replicate g.n.toNat (0 : Int)).set from_.toNat 1) := ⟨by simp, fun x hx => by
    rcases List.mem_or_eq_of_mem_set hx with h | h
    · have := (List.mem_replicate.1 h).2; omega
    · omega⟩
  generalize (List.replicate g.n.toNat (0 : Int)).set from_.toNat 1 = n0 at *
  let I : Nat → Fr → Store → Prop := fun m fr τ => ∃ (i : Nat) (n : List Int), i ≤ S.length ∧ m = S.length - i ∧ fr = [(3, .i to), (4, .ptr gid 0 0 0), (9, .ptr wid 0 0 0), (10, .sl nid 0 0 g.n.toNat 1), (33, .lst (ints S)), (34, .i S.length), (35, .i i)] ∧
    τ.get gid = some (.row 0 false 2 [[.sc (.int .i64 g.n), .lst (g.ls.map Lk.row)]]) ∧ τ.get wid = some (.row 0 false 3 [[.lst (ints S), .lst (nextRows nx N g.n.toNat), .sc (.bool true)]]) ∧ τ.get nid = some (.row 0 false 1 (ints n)) ∧ CntOk g n ∧ n = cntAll g nx (S.take i) n0
  refine loop_rule I _ ⟨0, n0, by omega, rfl, rfl, by simp [Store.get_set, a1, a2], by simp [Store.get_set, a3], by simp, ok0, rfl⟩ ?_
  clear hnid hwid hgid hset x2 hz
  rintro m fr τ ⟨i, n, hi, rfl, rfl, g1, g2, g3, hcn, heq⟩
  simp only [go_sem, Option.isSome_some, ↓reduceIte, if_true, if_false, Nat.reduceEqDiff, Nat.reduceAdd, Nat.reduceMul, Nat.reduceSub, Nat.reduceLT, Nat.reduceLeDiff, Nat.reduceDiv, Nat.reduceMod, Nat.reduceBEq, Int.reduceNeg, Int.reduceEq, Int.reduceNe, Int.reduceLT, Int.reduceLE, Int.reduceToNat, Int.reduceAdd, Int.reduceSub, Int.reduceMul, reduceCtorEq, decide_true, decide_false, Nat.zero_add, Nat.add_zero, Nat.zero_mul, Nat.sub_zero, Int.toNat_natCast, true_and, and_true, false_and, and_false, ne_eq, not_false_eq_true, not_true_eq_false, beq_self_eq_true, Bool.false_eq_true, Nat.le_refl, Nat.zero_le]
  refine .intro (fun hil => ?_) (fun hil => ?_)
  · have hil' : i < S.length := by omega
    have x1 : (ints S)[i]? = some [.sc (.int .i64 S[i])] := ints_get (List.getElem?_eq_getElem hil')
    have hmem := hml _ (List.getElem_mem hil')
    have htake : cntAll g nx (S.take (i + 1)) n0 = (nx S[i]).foldl (cntStep g S[i]) n := by
      rw [List.take_succ_eq_append_getElem hil', heq]; unfold cntAll; rw [List.foldl_append]; rfl
    generalize S[i] = at_ at *
    have hat := hfin.rng at_ hmem
    have r1 : at_.toNat < g.n.toNat := by omega
    have r2 : at_ < (g.n.toNat : Int) := by omega
    have r3 := hat.1
    have x3 := nextRows_get nx N hat.1 r1
    rw [if_pos hmem] at x3
    have n4 : (0 : Int) ≤ i := by omega
    have x3l : at_ < ((nextRows nx N g.n.toNat).length : Nat) := by rw [nextRows_len]; exact r2
    simp only [go_sem, Option.isSome_some, ↓reduceIte, if_true, if_false, Nat.reduceEqDiff, Nat.reduceAdd, Nat.reduceMul, Nat.reduceSub, Nat.reduceLT, Nat.reduceLeDiff, Nat.reduceDiv, Nat.reduceMod, Nat.reduceBEq, Int.reduceNeg, Int.reduceEq, Int.reduceNe, Int.reduceLT, Int.reduceLE, Int.reduceToNat, Int.reduceAdd, Int.reduceSub, Int.reduceMul, reduceCtorEq, decide_true, decide_false, Nat.zero_add, Nat.add_zero, Nat.zero_mul, Nat.sub_zero, Int.toNat_natCast, true_and, and_true, false_and, and_false, ne_eq, not_false_eq_true, not_true_eq_false, beq_self_eq_true, Bool.false_eq_true, Nat.le_refl, Nat.zero_le, n4, x1, rowAt_get g2, r3, x3l, x3]
    have hl240 := hnxl at_
    have hends := hnx at_
    have hendse := hnxe at_
    generalize nx at_ = l at *
    let J : Nat → Fr → Store → Prop := fun m fr τ => ∃ (j : Nat) (n2 : List Int), j ≤ l.length ∧ m = l.length - j ∧ fr = [(3, .i to), (4, .ptr gid 0 0 0), (9, .ptr wid 0 0 0), (10, .sl nid 0 0 g.n.toNat 1), (12, .i at_), (33, .lst (ints S)), (34, .i S.length), (35, .i i), (43, .lst (ints l)), (44, .i l.length), (45, .i j)] ∧
      τ.get gid = some (.row 0 false 2 [[.sc (.int .i64 g.n), .lst (g.ls.map Lk.row)]]) ∧ τ.get wid = some (.row 0 false 3 [[.lst (ints S), .lst (nextRows nx N g.n.toNat), .sc (.bool true)]]) ∧ τ.get nid = some (.row 0 false 1 (ints n2)) ∧ CntOk g n2 ∧ n2 = (l.take j).foldl (cntStep g at_) n
    refine loop_rule J _ ⟨0, n, by omega, rfl, rfl, g1, g2, g3, hcn, rfl⟩ ?_
    rintro m fr τ2 ⟨j, n2, hj, rfl, rfl, u1, u2, u3, hcn2, heq2⟩
    simp only [go_sem, Option.isSome_some, ↓reduceIte, if_true, if_false, Nat.reduceEqDiff, Nat.reduceAdd, Nat.reduceMul, Nat.reduceSub, Nat.reduceLT, Nat.reduceLeDiff, Nat.reduceDiv, Nat.reduceMod, Nat.reduceBEq, Int.reduceNeg, Int.reduceEq, Int.reduceNe, Int.reduceLT, Int.reduceLE, Int.reduceToNat, Int.reduceAdd, Int.reduceSub, Int.reduceMul, reduceCtorEq, decide_true, decide_false, Nat.zero_add, Nat.add_zero, Nat.zero_mul, Nat.sub_zero, Int.toNat_natCast, true_and, and_true, false_and, and_false, ne_eq, not_false_eq_true, not_true_eq_false, beq_self_eq_true, Bool.false_eq_true, Nat.le_refl, Nat.zero_le]
    refine .intro (fun hjl => ?_) (fun hjl => ?_)
    · have hjl' : j < l.length := by omega
      have x4 : (ints l)[j]? = some [.sc (.int .i64 l[j])] := ints_get (List.getElem?_eq_getElem hjl')
      have htake2 : (l.take (j + 1)).foldl (cntStep g at_) n = cntStep g at_ n2 l[j] := by
        rw [List.take_succ_eq_append_getElem hjl', List.foldl_append, heq2]; rfl
      have he := hends l[j] (List.getElem_mem hjl')
      have hee := hendse l[j] (List.getElem_mem hjl')
      generalize l[j] = e at *
      have n5 : (0 : Int) ≤ j := by omega
      simp only [go_sem, Option.isSome_some, ↓reduceIte, if_true, if_false, Nat.reduceEqDiff, Nat.reduceAdd, Nat.reduceMul, Nat.reduceSub, Nat.reduceLT, Nat.reduceLeDiff, Nat.reduceDiv, Nat.reduceMod, Nat.reduceBEq, Int.reduceNeg, Int.reduceEq, Int.reduceNe, Int.reduceLT, Int.reduceLE, Int.reduceToNat, Int.reduceAdd, Int.reduceSub, Int.reduceMul, reduceCtorEq, decide_true, decide_false, Nat.zero_add, Nat.add_zero, Nat.zero_mul, Nat.sub_zero, Int.toNat_natCast, true_and, and_true, false_and, and_false, ne_eq, not_false_eq_true, not_true_eq_false, beq_self_eq_true, Bool.false_eq_true, Nat.le_refl, Nat.zero_le, n5, x4, rowAt_get u1]
      refine good_imm (ends_ok g e hee) rfl ?_
      have r4 : (g.ends e).2.1.toNat < n2.length := by rw [hcn2.1]; omega
      have r5 : (g.ends e).2.1 < (g.n.toNat : Int) := by omega
      have r6 := he.1
      have hst := hcn2.step hat he
      have b1 := hcn2.at hat.1 hat.2
      have b2 := hcn2.at he.1 he.2
      unfold cntStep at htake2 hst
      generalize (g.ends e).2.1 = c at *
      have x5 : (ints n2)[c.toNat]? = some [.sc (.int .i64 (at0 n2 c))] := ints_get (by simp [r4])
      have x6 : (ints n2)[at_.toNat]? = some [.sc (.int .i64 (at0 n2 at_))] := mem_at0 hcn2.1 hat.1 hat.2
      have w1 : IntKind.i64.wrap (at0 n2 c + at0 n2 at_) = at0 n2 c + at0 n2 at_ := wrap_id (by omega) (by omega)
      have w4 : IntKind.i64.wrap ((j : Int) + 1) = ((j + 1 : Nat) : Int) := by rw [wrap_id (by omega) (by omega)]; rfl
      simp only [go_sem, Option.isSome_some, ↓reduceIte, if_true, if_false, Nat.reduceEqDiff, Nat.reduceAdd, Nat.reduceMul, Nat.reduceSub, Nat.reduceLT, Nat.reduceLeDiff, Nat.reduceDiv, Nat.reduceMod, Nat.reduceBEq, Int.reduceNeg, Int.reduceEq, Int.reduceNe, Int.reduceLT, Int.reduceLE, Int.reduceToNat, Int.reduceAdd, Int.reduceSub, Int.reduceMul, reduceCtorEq, decide_true, decide_false, Nat.zero_add, Nat.add_zero, Nat.zero_mul, Nat.sub_zero, Int.toNat_natCast, true_and, and_true, false_and, and_false, ne_eq, not_false_eq_true, not_true_eq_false, beq_self_eq_true, Bool.false_eq_true, Nat.le_refl, Nat.zero_le]
      unfold op10_56
      simp only [go_sem, Option.isSome_some, ↓reduceIte, if_true, if_false, Nat.reduceEqDiff, Nat.reduceAdd, Nat.reduceMul, Nat.reduceSub, Nat.reduceLT, Nat.reduceLeDiff, Nat.reduceDiv, Nat.reduceMod, Nat.reduceBEq, Int.reduceNeg, Int.reduceEq, Int.reduceNe, Int.reduceLT, Int.reduceLE, Int.reduceToNat, Int.reduceAdd, Int.reduceSub, Int.reduceMul, reduceCtorEq, decide_true, decide_false, Nat.zero_add, Nat.add_zero, Nat.zero_mul, Nat.sub_zero, Int.toNat_natCast, true_and, and_true, false_and, and_false, ne_eq, not_false_eq_true, not_true_eq_false, beq_self_eq_true, Bool.false_eq_true, Nat.le_refl, Nat.zero_le, rowAt_get u3, r5, r6, r2, r3, x5, x6, w1, w4]
      have hrs : ∀ x, (ints n2).set c.toNat [AVal.sc (.int .i64 x)] = ints (n2.set c.toNat x) := fun x => (ints_set _ _ _).symm
      rw [hrs]
      refine back_of (l.length - (j + 1)) (Nat.sub_lt_sub_left hjl' (Nat.lt_succ_self j)) ⟨j + 1, _, hjl', rfl, rfl, ?_, ?_, by simp, hst, htake2.symm⟩
      · rw [Store.get_set_ne _ _ a2, u1]
      · rw [Store.get_set_ne _ _ a3, u2]
    · have e : j = l.length := by omega
      subst e
      rw [List.take_length] at heq2
      have w4 : IntKind.i64.wrap ((i : Int) + 1) = ((i + 1 : Nat) : Int) := by rw [wrap_id (by omega) (by omega)]; rfl
      simp only [go_sem, Option.isSome_some, ↓reduceIte, if_true, if_false, Nat.reduceEqDiff, Nat.reduceAdd, Nat.reduceMul, Nat.reduceSub, Nat.reduceLT, Nat.reduceLeDiff, Nat.reduceDiv, Nat.reduceMod, Nat.reduceBEq, Int.reduceNeg, Int.reduceEq, Int.reduceNe, Int.reduceLT, Int.reduceLE, Int.reduceToNat, Int.reduceAdd, Int.reduceSub, Int.reduceMul, reduceCtorEq, decide_true, decide_false, Nat.zero_add, Nat.add_zero, Nat.zero_mul, Nat.sub_zero, Int.toNat_natCast, true_and, and_true, false_and, and_false, ne_eq, not_false_eq_true, not_true_eq_false, beq_self_eq_true, Bool.false_eq_true, Nat.le_refl, Nat.zero_le, w4]
      exact back_of (S.length - (i + 1)) (Nat.sub_lt_sub_left hil' (Nat.lt_succ_self i)) ⟨i + 1, n2, hil', rfl, rfl, u1, u2, u3, hcn2, by rw [htake, heq2]⟩
  · have e : i = S.length := by omega
    subst e
    rw [List.take_length] at heq
    have r1 : to < (g.n.toNat : Int) := by omega
    have r2 := gb.2.1
    have x1 := mem_at0 hcn.1 gb.2.1 gb.2.2
    simp only [go_sem, Option.isSome_some, ↓reduceIte, if_true, if_false, Nat.reduceEqDiff, Nat.reduceAdd, Nat.reduceMul, Nat.reduceSub, Nat.reduceLT, Nat.reduceLeDiff, Nat.reduceDiv, Nat.reduceMod, Nat.reduceBEq, Int.reduceNeg, Int.reduceEq, Int.reduceNe, Int.reduceLT, Int.reduceLE, Int.reduceToNat, Int.reduceAdd, Int.reduceSub, Int.reduceMul, reduceCtorEq, decide_true, decide_false, Nat.zero_add, Nat.add_zero, Nat.zero_mul, Nat.sub_zero, Int.toNat_natCast, true_and, and_true, false_and, and_false, ne_eq, not_false_eq_true, not_true_eq_false, beq_self_eq_true, Bool.false_eq_true, Nat.le_refl, Nat.zero_le, rowAt_get g3, r1, r2, x1]
    rw [hdef, ← heq]
    exact out_sc
end Go.Proofs

set_option linter.unusedSimpArgs false
set_option linter.unusedVariables false
namespace Go.Proofs
open Go.Ab

def hopF (s : List Int) (c a : Int) : Int := if at0 s a + 1 < at0 s c then at0 s a + 1 else at0 s c
def hopM (s : List Int) (c a : Int) : Int := if at0 s c < at0 s a + 1 then at0 s a + 1 else at0 s c
def hopStep (g : Gr) (at_ : Int) (s : List Int × List Int) (e : Int) : List Int × List Int := (s.1.set (g.ends e).2.1.toNat (hopF s.1 (g.ends e).2.1 at_), s.2.set (g.ends e).2.1.toNat (hopM s.2 (g.ends e).2.1 at_))
def hopAll (g : Gr) (nx : Int → List Int) (nodes : List Int) (s : List Int × List Int) : List Int × List Int := nodes.foldl (fun n at_ => (nx at_).foldl (hopStep g at_) n) s
def hop0 (g : Gr) (from_ : Int) : List Int × List Int := ((List.replicate g.n.toNat g.n).set from_.toNat 0, List.replicate g.n.toNat 0)
def hopsOf (g : Gr) (down : List Bool) (from_ to : Int) : Int × Int × Bool :=
  if refFrom g down to ≠ [] ∧ (0 ≤ from_ ∧ from_ < g.n) ∧ 0 ≤ at0 (refFrom g down to) from_ then
    (at0 (hopAll g (nextOf g down (refFrom g down to)) (sortNd (refFrom g down to) (g.n.toNat - 1) (nodesOf g (nextOf g down (refFrom g down to)) from_)) (hop0 g from_)).1 to,
     at0 (hopAll g (nextOf g down (refFrom g down to)) (sortNd (refFrom g down to) (g.n.toNat - 1) (nodesOf g (nextOf g down (refFrom g down to)) from_)) (hop0 g from_)).2 to, true) else (0, 0, false)
structure HopOk (g : Gr) (k : Nat) (s : List Int × List Int) : Prop where
  l1 : s.1.length = g.n.toNat
  l2 : s.2.length = g.n.toNat
  b1 : ∀ x ∈ s.1, 0 ≤ x ∧ x ≤ g.n
  b2 : ∀ x ∈ s.2, 0 ≤ x ∧ x ≤ k
theorem HopOk.at1 {g : Gr} {k : Nat} {s : List Int × List Int} (h : HopOk g k s) {v : Int} (h0 : 0 ≤ v) (h1 : v < g.n) : 0 ≤ at0 s.1 v ∧ at0 s.1 v ≤ g.n := by
  have : v.toNat < s.1.length := by rw [h.l1]; omega
  exact h.b1 _ (by simp [this])
theorem HopOk.at2 {g : Gr} {k : Nat} {s : List Int × List Int} (h : HopOk g k s) {v : Int} (h0 : 0 ≤ v) (h1 : v < g.n) : 0 ≤ at0 s.2 v ∧ at0 s.2 v ≤ k := by
  have : v.toNat < s.2.length := by rw [h.l2]; omega
  exact h.b2 _ (by simp [this])
theorem HopOk.step {g : Gr} {k : Nat} {s : List Int × List Int} (h : HopOk g k s) {at_ e : Int} (ha : 0 ≤ at_ ∧ at_ < g.n) (he : 0 ≤ (g.ends e).2.1 ∧ (g.ends e).2.1 < g.n) : HopOk g (k + 1) (hopStep g at_ s e) := by
  have h1 := h.at1 ha.1 ha.2
  have h2 := h.at1 he.1 he.2
  have h3 := h.at2 ha.1 ha.2
  have h4 := h.at2 he.1 he.2
  refine ⟨by simpa [hopStep] using h.l1, by simpa [hopStep] using h.l2, fun x hx => ?_, fun x hx => ?_⟩
  · rcases List.mem_or_eq_of_mem_set hx with hx | hx
    · exact h.b1 x hx
    · rw [hx]; unfold hopF; split <;> omega
  · rcases List.mem_or_eq_of_mem_set hx with hx | hx
    · have := h.b2 x hx; omega
    · rw [hx]; unfold hopM; split <;> omega
theorem HopOk.mono {g : Gr} {k k' : Nat} {s : List Int × List Int} (h : HopOk g k s) (hk : k ≤ k') : HopOk g k' s := ⟨h.l1, h.l2, h.b1, fun x hx => by have := h.b2 x hx; omega⟩
theorem wrap_small {x : Int} (h0 : 0 ≤ x) (h1 : x ≤ 1000000000) : IntKind.i64.wrap (x + 1) = x + 1 := wrap_id (by omega) (by omega)
theorem hops_ok (g : Gr) (down : List Bool) (from_ to : Int) : PGood Try.prog 9 [g.val, .lst (bools down), .i from_, .i to] (.tup [.i (hopsOf g down from_ to).1, .i (hopsOf g down from_ to).2.1, .b (hopsOf g down from_ to).2.2]) := by
  refine pgood_of_out 2 (good_of_wp isF9 (Nat.le_refl _) ?_)
  unfold ac9
  simp only [go_sem, Option.isSome_some, ↓reduceIte, if_true, if_false, Nat.reduceEqDiff, Nat.reduceAdd, Nat.reduceMul, Nat.reduceSub, Nat.reduceLT, Nat.reduceLeDiff, Nat.reduceDiv, Nat.reduceMod, Nat.reduceBEq, Int.reduceNeg, Int.reduceEq, Int.reduceNe, Int.reduceLT, Int.reduceLE, Int.reduceToNat, Int.reduceAdd, Int.reduceSub, Int.reduceMul, reduceCtorEq, decide_true, decide_false, Nat.zero_add, Nat.add_zero, Nat.zero_mul, Nat.sub_zero, Int.toNat_natCast, true_and, and_true, false_and, and_false, ne_eq, not_false_eq_true, not_true_eq_false, beq_self_eq_true, Bool.false_eq_true, Nat.le_refl, Nat.zero_le, Gr.val]
  intro gid hgid
  simp only [go_sem, Option.isSome_some, ↓reduceIte, if_true, if_false, Nat.reduceEqDiff, Nat.reduceAdd, Nat.reduceMul, Nat.reduceSub, Nat.reduceLT, Nat.reduceLeDiff, Nat.reduceDiv, Nat.reduceMod, Nat.reduceBEq, Int.reduceNeg, Int.reduceEq, Int.reduceNe, Int.reduceLT, Int.reduceLE, Int.reduceToNat, Int.reduceAdd, Int.reduceSub, Int.reduceMul, reduceCtorEq, decide_true, decide_false, Nat.zero_add, Nat.add_zero, Nat.zero_mul, Nat.sub_zero, Int.toNat_natCast, true_and, and_true, false_and, and_false, ne_eq, not_false_eq_true, not_true_eq_false, beq_self_eq_true, Bool.false_eq_true, Nat.le_refl, Nat.zero_le]
  refine good_imm (find_ok g down from_ to) rfl ?_
  unfold findVal
  have bnil := refFrom_nil (g := g) (down := down) (node := to)
  have hdef : hopsOf g down from_ to = if refFrom g down to ≠ [] ∧ (0 ≤ from_ ∧ from_ < g.n) ∧ 0 ≤ at0 (refFrom g down to) from_ then
    (at0 (hopAll g (nextOf g down (refFrom g down to)) (sortNd (refFrom g down to) (g.n.toNat - 1) (nodesOf g (nextOf g down (refFrom g down to)) from_)) (hop0 g from_)).1 to,
     at0 (hopAll g (nextOf g down (refFrom g down to)) (sortNd (refFrom g down to) (g.n.toNat - 1) (nodesOf g (nextOf g down (refFrom g down to)) from_)) (hop0 g from_)).2 to, true) else (0, 0, false) := rfl
  generalize refFrom g down to = b at *
  by_cases hc : b ≠ [] ∧ (0 ≤ from_ ∧ from_ < g.n) ∧ 0 ≤ at0 b from_
  case neg =>
    rw [if_neg hc] at hdef ⊢
    simp only [go_sem, Option.isSome_some, ↓reduceIte, if_true, if_false, Nat.reduceEqDiff, Nat.reduceAdd, Nat.reduceMul, Nat.reduceSub, Nat.reduceLT, Nat.reduceLeDiff, Nat.reduceDiv, Nat.reduceMod, Nat.reduceBEq, Int.reduceNeg, Int.reduceEq, Int.reduceNe, Int.reduceLT, Int.reduceLE, Int.reduceToNat, Int.reduceAdd, Int.reduceSub, Int.reduceMul, reduceCtorEq, decide_true, decide_false, Nat.zero_add, Nat.add_zero, Nat.zero_mul, Nat.sub_zero, Int.toNat_natCast, true_and, and_true, false_and, and_false, ne_eq, not_false_eq_true, not_true_eq_false, beq_self_eq_true, Bool.false_eq_true, Nat.le_refl, Nat.zero_le]
    intro wid hwid
    simp only [go_sem, Option.isSome_some, ↓reduceIte, if_true, if_false, Nat.reduceEqDiff, Nat.reduceAdd, Nat.reduceMul, Nat.reduceSub, Nat.reduceLT, Nat.reduceLeDiff, Nat.reduceDiv, Nat.reduceMod, Nat.reduceBEq, Int.reduceNeg, Int.reduceEq, Int.reduceNe, Int.reduceLT, Int.reduceLE, Int.reduceToNat, Int.reduceAdd, Int.reduceSub, Int.reduceMul, reduceCtorEq, decide_true, decide_false, Nat.zero_add, Nat.add_zero, Nat.zero_mul, Nat.sub_zero, Int.toNat_natCast, true_and, and_true, false_and, and_false, ne_eq, not_false_eq_true, not_true_eq_false, beq_self_eq_true, Bool.false_eq_true, Nat.le_refl, Nat.zero_le]
    rw [hdef]; exact out_tup3 out_sc out_sc out_sc
  rw [if_pos hc] at hdef ⊢
  obtain ⟨hb, hn, hge⟩ := hc
  have gb : g.check.2 = 0 ∧ 0 ≤ to ∧ to < g.n := Decidable.byContradiction fun h => hb (bnil.2 h)
  obtain ⟨k1, k2, k3, k4⟩ := g.check_ok.1 gb.1
  have hok : g.Ok := ⟨k1, k2, k3, k4⟩
  have hnx : ∀ at_ e, e ∈ nextOf g down b at_ → 0 ≤ (g.ends e).2.1 ∧ (g.ends e).2.1 < g.n := fun at_ e he => (nextOf_mem hok he).2.2.1
  have hnxe : ∀ at_ e, e ∈ nextOf g down b at_ → e < 9223372036854775808 := fun at_ e he => by have := (nextOf_mem hok he).1; omega
  have hnxl : ∀ at_, (nextOf g down b at_).length ≤ 240 := fun at_ => by
    unfold nextOf
    split
    · exact Nat.le_trans (List.length_filter_le _ _) (by have := g.out_len at_; omega)
    · simp
  generalize nextOf g down b = nx at *
  have hfin := nodesOf_fin (nx := nx) hn hnx
  have hlen := vfin_len hfin
  generalize nodesOf g nx from_ = N at *
  have hperm := sortNd_perm (far := b) (k := g.n.toNat - 1) (nodes := N) (fun x hx => by have := hfin.rng x hx; omega)
  have hml : ∀ x ∈ sortNd b (g.n.toNat - 1) N, x ∈ N := fun x hx => hperm.mem_iff.1 hx
  have hsl := hperm.length_eq
  generalize sortNd b (g.n.toNat - 1) N = S at *
  simp only [go_sem, Option.isSome_some, ↓reduceIte, if_true, if_false, Nat.reduceEqDiff, Nat.reduceAdd, Nat.reduceMul, Nat.reduceSub, Nat.reduceLT, Nat.reduceLeDiff, Nat.reduceDiv, Nat.reduceMod, Nat.reduceBEq, Int.reduceNeg, Int.reduceEq, Int.reduceNe, Int.reduceLT, Int.reduceLE, Int.reduceToNat, Int.reduceAdd, Int.reduceSub, Int.reduceMul, reduceCtorEq, decide_true, decide_false, Nat.zero_add, Nat.add_zero, Nat.zero_mul, Nat.sub_zero, Int.toNat_natCast, true_and, and_true, false_and, and_false, ne_eq, not_false_eq_true, not_true_eq_false, beq_self_eq_true, Bool.false_eq_true, Nat.le_refl, Nat.zero_le]
  intro wid hwid
  have a1 : gid ≠ wid := fun e => by rw [← e] at hwid; simp at hwid
  have p1 : (0 : Int) ≤ g.n := by omega
  have p2 : g.n ≤ 9223372036854775807 := by omega
  have p3 : g.n.toNat * 8 ≤ 281474976710656 := by omega
  simp only [go_sem, Option.isSome_some, ↓reduceIte, if_true, if_false, Nat.reduceEqDiff, Nat.reduceAdd, Nat.reduceMul, Nat.reduceSub, Nat.reduceLT, Nat.reduceLeDiff, Nat.reduceDiv, Nat.reduceMod, Nat.reduceBEq, Int.reduceNeg, Int.reduceEq, Int.reduceNe, Int.reduceLT, Int.reduceLE, Int.reduceToNat, Int.reduceAdd, Int.reduceSub, Int.reduceMul, reduceCtorEq, decide_true, decide_false, Nat.zero_add, Nat.add_zero, Nat.zero_mul, Nat.sub_zero, Int.toNat_natCast, true_and, and_true, false_and, and_false, ne_eq, not_false_eq_true, not_true_eq_false, beq_self_eq_true, Bool.false_eq_true, Nat.le_refl, Nat.zero_le]
  unfold op9_30
  simp only [go_sem, Option.isSome_some, ↓reduceIte, if_true, if_false, Nat.reduceEqDiff, Nat.reduceAdd, Nat.reduceMul, Nat.reduceSub, Nat.reduceLT, Nat.reduceLeDiff, Nat.reduceDiv, Nat.reduceMod, Nat.reduceBEq, Int.reduceNeg, Int.reduceEq, Int.reduceNe, Int.reduceLT, Int.reduceLE, Int.reduceToNat, Int.reduceAdd, Int.reduceSub, Int.reduceMul, reduceCtorEq, decide_true, decide_false, Nat.zero_add, Nat.add_zero, Nat.zero_mul, Nat.sub_zero, Int.toNat_natCast, true_and, and_true, false_and, and_false, ne_eq, not_false_eq_true, not_true_eq_false, beq_self_eq_true, Bool.false_eq_true, Nat.le_refl, Nat.zero_le, rowAt_ne a1, p1, p2, p3]
  intro nid hnid
  have a2 : gid ≠ nid := fun e => by rw [← e, Store.get_set_ne _ _ a1] at hnid; simp at hnid
  have a3 : wid ≠ nid := fun e => by rw [← e] at hnid; simp at hnid
  simp only [go_sem, Option.isSome_some, ↓reduceIte, if_true, if_false, Nat.reduceEqDiff, Nat.reduceAdd, Nat.reduceMul, Nat.reduceSub, Nat.reduceLT, Nat.reduceLeDiff, Nat.reduceDiv, Nat.reduceMod, Nat.reduceBEq, Int.reduceNeg, Int.reduceEq, Int.reduceNe, Int.reduceLT, Int.reduceLE, Int.reduceToNat, Int.reduceAdd, Int.reduceSub, Int.reduceMul, reduceCtorEq, decide_true, decide_false, Nat.zero_add, Nat.add_zero, Nat.zero_mul, Nat.sub_zero, Int.toNat_natCast, true_and, and_true, false_and, and_false, ne_eq, not_false_eq_true, not_true_eq_false, beq_self_eq_true, Bool.false_eq_true, Nat.le_refl, Nat.zero_le, rowAt_ne a1, rowAt_ne a2, p1, p2, p3]
  intro mid hmid
  have a4 : gid ≠ mid := fun e => by rw [← e, Store.get_set_ne _ _ a2, Store.get_set_ne _ _ a1] at hmid; simp at hmid
  have a5 : wid ≠ mid := fun e => by rw [← e, Store.get_set_ne _ _ a3] at hmid; simp at hmid
  have a6 : nid ≠ mid := fun e => by rw [← e] at hmid; simp at hmid
  have hz : List.replicate g.n.toNat [AVal.sc (.int .i64 0)] = ints (List.replicate g.n.toNat 0) := (ints_rep _ _).symm
  rw [hz]
  simp only [go_sem, Option.isSome_some, ↓reduceIte, if_true, if_false, Nat.reduceEqDiff, Nat.reduceAdd, Nat.reduceMul, Nat.reduceSub, Nat.reduceLT, Nat.reduceLeDiff, Nat.reduceDiv, Nat.reduceMod, Nat.reduceBEq, Int.reduceNeg, Int.reduceEq, Int.reduceNe, Int.reduceLT, Int.reduceLE, Int.reduceToNat, Int.reduceAdd, Int.reduceSub, Int.reduceMul, reduceCtorEq, decide_true, decide_false, Nat.zero_add, Nat.add_zero, Nat.zero_mul, Nat.sub_zero, Int.toNat_natCast, true_and, and_true, false_and, and_false, ne_eq, not_false_eq_true, not_true_eq_false, beq_self_eq_true, Bool.false_eq_true, Nat.le_refl, Nat.zero_le]
  let H : Nat → Fr → Store → Prop := fun m fr τ => ∃ (i : Nat), i ≤ g.n.toNat ∧ m = g.n.toNat - i ∧ fr = [(2, .i from_), (3, .i to), (4, .ptr gid 0 0 0), (11, .ptr wid 0 0 0), (12, .sl nid 0 0 g.n.toNat 1), (13, .sl mid 0 0 g.n.toNat 1), (37, .i g.n.toNat), (38, .i i)] ∧
    τ.get gid = some (.row 0 false 2 [[.sc (.int .i64 g.n), .lst (g.ls.map Lk.row)]]) ∧ τ.get wid = some (.row 0 false 3 [[.lst (ints S), .lst (nextRows nx N g.n.toNat), .sc (.bool true)]]) ∧ τ.get nid = some (.row 0 false 1 (ints (List.replicate i g.n ++ List.replicate (g.n.toNat - i) 0))) ∧ τ.get mid = some (.row 0 false 1 (ints (List.replicate g.n.toNat 0)))
  refine loop_rule H g.n.toNat ⟨0, by omega, by omega, rfl, by simp [Store.get_set, a1, a2, a4], by simp [Store.get_set, a3, a5], by simp [Store.get_set, a6], by simp⟩ ?_
  clear hmid hnid hwid hgid hz
  rintro m fr τ ⟨i, hi, rfl, rfl, g1, g2, g3, g4⟩
  simp only [go_sem, Option.isSome_some, ↓reduceIte, if_true, if_false, Nat.reduceEqDiff, Nat.reduceAdd, Nat.reduceMul, Nat.reduceSub, Nat.reduceLT, Nat.reduceLeDiff, Nat.reduceDiv, Nat.reduceMod, Nat.reduceBEq, Int.reduceNeg, Int.reduceEq, Int.reduceNe, Int.reduceLT, Int.reduceLE, Int.reduceToNat, Int.reduceAdd, Int.reduceSub, Int.reduceMul, reduceCtorEq, decide_true, decide_false, Nat.zero_add, Nat.add_zero, Nat.zero_mul, Nat.sub_zero, Int.toNat_natCast, true_and, and_true, false_and, and_false, ne_eq, not_false_eq_true, not_true_eq_false, beq_self_eq_true, Bool.false_eq_true, Nat.le_refl, Nat.zero_le]
  refine .intro (fun h => ?_) (fun h => ?_)
  · have hi' : i < (List.replicate i g.n ++ List.replicate (g.n.toNat - i) 0).length := by simp; omega
    have x2 := ints_get (List.getElem?_eq_getElem hi')
    have n4 : (0 : Int) ≤ i := by omega
    have n5 : (i : Int) < g.n.toNat := by omega
    have hig : i < g.n.toNat := by omega
    have w1 : IntKind.i64.wrap ((i : Int) + 1) = ((i + 1 : Nat) : Int) := by rw [wrap_id (by omega) (by omega)]; rfl
    simp only [go_sem, Option.isSome_some, ↓reduceIte, if_true, if_false, Nat.reduceEqDiff, Nat.reduceAdd, Nat.reduceMul, Nat.reduceSub, Nat.reduceLT, Nat.reduceLeDiff, Nat.reduceDiv, Nat.reduceMod, Nat.reduceBEq, Int.reduceNeg, Int.reduceEq, Int.reduceNe, Int.reduceLT, Int.reduceLE, Int.reduceToNat, Int.reduceAdd, Int.reduceSub, Int.reduceMul, reduceCtorEq, decide_true, decide_false, Nat.zero_add, Nat.add_zero, Nat.zero_mul, Nat.sub_zero, Int.toNat_natCast, true_and, and_true, false_and, and_false, ne_eq, not_false_eq_true, not_true_eq_false, beq_self_eq_true, Bool.false_eq_true, Nat.le_refl, Nat.zero_le, n4, n5, rowAt_get g3, rowAt_get g1, x2, w1]
    refine back_of (g.n.toNat - (i + 1)) (Nat.sub_lt_sub_left hig (Nat.lt_succ_self i)) ⟨i + 1, hig, rfl, rfl, ?_, ?_, ?_, ?_⟩
    · rw [Store.get_set_ne _ _ a2, g1]
    · rw [Store.get_set_ne _ _ a3, g2]
    · rw [Store.get_set_self, ← fill_step hig, ints_set]
    · rw [Store.get_set_ne _ _ (fun e => a6 e.symm), g4]
  have ei : i = g.n.toNat := by omega
  subst ei
  rw [Nat.sub_self, List.replicate_zero, List.append_nil] at g3
  have q0 := hn.1
  have q1 : from_ < (g.n.toNat : Int) := by omega
  have q2 : from_.toNat < g.n.toNat := by omega
  have x2 : (ints (List.replicate g.n.toNat g.n))[from_.toNat]? = some [.sc (.int .i64 g.n)] := ints_get (by simp [q2])
  have hset : (ints (List.replicate g.n.toNat g.n)).set from_.toNat [AVal.sc (.int .i64 0)] = ints ((List.replicate g.n.toNat g.n).set from_.toNat 0) := (ints_set _ _ _).symm
  simp only [go_sem, Option.isSome_some, ↓reduceIte, if_true, if_false, Nat.reduceEqDiff, Nat.reduceAdd, Nat.reduceMul, Nat.reduceSub, Nat.reduceLT, Nat.reduceLeDiff, Nat.reduceDiv, Nat.reduceMod, Nat.reduceBEq, Int.reduceNeg, Int.reduceEq, Int.reduceNe, Int.reduceLT, Int.reduceLE, Int.reduceToNat, Int.reduceAdd, Int.reduceSub, Int.reduceMul, reduceCtorEq, decide_true, decide_false, Nat.zero_add, Nat.add_zero, Nat.zero_mul, Nat.sub_zero, Int.toNat_natCast, true_and, and_true, false_and, and_false, ne_eq, not_false_eq_true, not_true_eq_false, beq_self_eq_true, Bool.false_eq_true, Nat.le_refl, Nat.zero_le, q0, q1, x2, hset, rowAt_get g3]
  have gw2 : (τ.set nid (.row 0 false 1 (ints ((List.replicate g.n.toNat g.n).set from_.toNat 0)))).get wid = some (.row 0 false 3 [[.lst (ints S), .lst (nextRows nx N g.n.toNat), .sc (.bool true)]]) := by rw [Store.get_set_ne _ _ a3, g2]
  simp only [go_sem, Option.isSome_some, ↓reduceIte, if_true, if_false, Nat.reduceEqDiff, Nat.reduceAdd, Nat.reduceMul, Nat.reduceSub, Nat.reduceLT, Nat.reduceLeDiff, Nat.reduceDiv, Nat.reduceMod, Nat.reduceBEq, Int.reduceNeg, Int.reduceEq, Int.reduceNe, Int.reduceLT, Int.reduceLE, Int.reduceToNat, Int.reduceAdd, Int.reduceSub, Int.reduceMul, reduceCtorEq, decide_true, decide_false, Nat.zero_add, Nat.add_zero, Nat.zero_mul, Nat.sub_zero, Int.toNat_natCast, true_and, and_true, false_and, and_false, ne_eq, not_false_eq_true, not_true_eq_false, beq_self_eq_true, Bool.false_eq_true, Nat.le_refl, Nat.zero_le, rowAt_get gw2]
  have ok0 : HopOk g 0 (hop0 g from_) := ⟨by simp [hop0], by simp [hop0], fun x hx => by
    rcases List.mem_or_eq_of_mem_set hx with h | h
    · have := (List.mem_replicate.1 h).2; omega
    · omega, fun x hx => by have := (List.mem_replicate.1 hx).2; omega⟩
  have e1 : (List.replicate g.n.toNat g.n).set from_.toNat 0 = (hop0 g from_).1 := rfl
  have e2 : List.replicate g.n.toNat 0 = (hop0 g from_).2 := rfl
  rw [e1] at gw2 ⊢
  rw [e2] at g4
  generalize hop0 g from_ = n0 at *
  let I : Nat → Fr → Store → Prop := fun m fr τ => ∃ (i : Nat) (n : List Int × List Int), i ≤ S.length ∧ m = S.length - i ∧ fr = [(3, .i to), (4, .ptr gid 0 0 0), (11, .ptr wid 0 0 0), (12, .sl nid 0 0 g.n.toNat 1), (13, .sl mid 0 0 g.n.toNat 1), (51, .lst (ints S)), (52, .i S.length), (53, .i i)] ∧
    τ.get gid = some (.row 0 false 2 [[.sc (.int .i64 g.n), .lst (g.ls.map Lk.row)]]) ∧ τ.get wid = some (.row 0 false 3 [[.lst (ints S), .lst (nextRows nx N g.n.toNat), .sc (.bool true)]]) ∧ τ.get nid = some (.row 0 false 1 (ints n.1)) ∧ τ.get mid = some (.row 0 false 1 (ints n.2)) ∧ HopOk g (i * 240) n ∧ n = hopAll g nx (S.take i) n0
  refine loop_rule I S.length ⟨0, n0, by omega, rfl, rfl, by rw [Store.get_set_ne _ _ a2, g1], gw2, by simp, by rw [Store.get_set_ne _ _ (fun e => a6 e.symm), g4], by simpa using ok0, rfl⟩ ?_
  clear gw2 g1 g2 g3 g4 e1 e2 x2 hset hi h
  rintro m fr τ ⟨i, n, hi, rfl, rfl, g1, g2, g3, g4, hcn, heq⟩
  simp only [go_sem, Option.isSome_some, ↓reduceIte, if_true, if_false, Nat.reduceEqDiff, Nat.reduceAdd, Nat.reduceMul, Nat.reduceSub, Nat.reduceLT, Nat.reduceLeDiff, Nat.reduceDiv, Nat.reduceMod, Nat.reduceBEq, Int.reduceNeg, Int.reduceEq, Int.reduceNe, Int.reduceLT, Int.reduceLE, Int.reduceToNat, Int.reduceAdd, Int.reduceSub, Int.reduceMul, reduceCtorEq, decide_true, decide_false, Nat.zero_add, Nat.add_zero, Nat.zero_mul, Nat.sub_zero, Int.toNat_natCast, true_and, and_true, false_and, and_false, ne_eq, not_false_eq_true, not_true_eq_false, beq_self_eq_true, Bool.false_eq_true, Nat.le_refl, Nat.zero_le]
  refine .intro (fun hil => ?_) (fun hil => ?_)
  · have hil' : i < S.length := by omega
    have x1 : (ints S)[i]? = some [.sc (.int .i64 S[i])] := ints_get (List.getElem?_eq_getElem hil')
    have hmem := hml _ (List.getElem_mem hil')
    have htake : hopAll g nx (S.take (i + 1)) n0 = (nx S[i]).foldl (hopStep g S[i]) n := by
      rw [List.take_succ_eq_append_getElem hil', heq]; unfold hopAll; rw [List.foldl_append]; rfl
    generalize S[i] = at_ at *
    have hat := hfin.rng at_ hmem
    have r1 : at_.toNat < g.n.toNat := by omega
    have r2 : at_ < (g.n.toNat : Int) := by omega
    have r3 := hat.1
    have x3 := nextRows_get nx N hat.1 r1
    rw [if_pos hmem] at x3
    have n4 : (0 : Int) ≤ i := by omega
    have x3l : at_ < ((nextRows nx N g.n.toNat).length : Nat) := by rw [nextRows_len]; exact r2
    simp only [go_sem, Option.isSome_some, ↓reduceIte, if_true, if_false, Nat.reduceEqDiff, Nat.reduceAdd, Nat.reduceMul, Nat.reduceSub, Nat.reduceLT, Nat.reduceLeDiff, Nat.reduceDiv, Nat.reduceMod, Nat.reduceBEq, Int.reduceNeg, Int.reduceEq, Int.reduceNe, Int.reduceLT, Int.reduceLE, Int.reduceToNat, Int.reduceAdd, Int.reduceSub, Int.reduceMul, reduceCtorEq, decide_true, decide_false, Nat.zero_add, Nat.add_zero, Nat.zero_mul, Nat.sub_zero, Int.toNat_natCast, true_and, and_true, false_and, and_false, ne_eq, not_false_eq_true, not_true_eq_false, beq_self_eq_true, Bool.false_eq_true, Nat.le_refl, Nat.zero_le, n4, x1, rowAt_get g2, r3, x3l, x3]
    have hl240 := hnxl at_
    have hends := hnx at_
    have hendse := hnxe at_
    generalize nx at_ = l at *
    let J : Nat → Fr → Store → Prop := fun m fr τ => ∃ (j : Nat) (n2 : List Int × List Int), j ≤ l.length ∧ m = l.length - j ∧ fr = [(3, .i to), (4, .ptr gid 0 0 0), (11, .ptr wid 0 0 0), (12, .sl nid 0 0 g.n.toNat 1), (13, .sl mid 0 0 g.n.toNat 1), (16, .i at_), (51, .lst (ints S)), (52, .i S.length), (53, .i i), (61, .lst (ints l)), (62, .i l.length), (63, .i j)] ∧
      τ.get gid = some (.row 0 false 2 [[.sc (.int .i64 g.n), .lst (g.ls.map Lk.row)]]) ∧ τ.get wid = some (.row 0 false 3 [[.lst (ints S), .lst (nextRows nx N g.n.toNat), .sc (.bool true)]]) ∧ τ.get nid = some (.row 0 false 1 (ints n2.1)) ∧ τ.get mid = some (.row 0 false 1 (ints n2.2)) ∧ HopOk g (i * 240 + j) n2 ∧ n2 = (l.take j).foldl (hopStep g at_) n
    refine loop_rule J _ ⟨0, n, by omega, rfl, rfl, g1, g2, g3, g4, by simpa using hcn, rfl⟩ ?_
    rintro m fr τ2 ⟨j, n2, hj, rfl, rfl, u1, u2, u3, u4, hcn2, heq2⟩
    simp only [go_sem, Option.isSome_some, ↓reduceIte, if_true, if_false, Nat.reduceEqDiff, Nat.reduceAdd, Nat.reduceMul, Nat.reduceSub, Nat.reduceLT, Nat.reduceLeDiff, Nat.reduceDiv, Nat.reduceMod, Nat.reduceBEq, Int.reduceNeg, Int.reduceEq, Int.reduceNe, Int.reduceLT, Int.reduceLE, Int.reduceToNat, Int.reduceAdd, Int.reduceSub, Int.reduceMul, reduceCtorEq, decide_true, decide_false, Nat.zero_add, Nat.add_zero, Nat.zero_mul, Nat.sub_zero, Int.toNat_natCast, true_and, and_true, false_and, and_false, ne_eq, not_false_eq_true, not_true_eq_false, beq_self_eq_true, Bool.false_eq_true, Nat.le_refl, Nat.zero_le]
    refine .intro (fun hjl => ?_) (fun hjl => ?_)
    · have hjl' : j < l.length := by omega
      have x4 : (ints l)[j]? = some [.sc (.int .i64 l[j])] := ints_get (List.getElem?_eq_getElem hjl')
      have htake2 : (l.take (j + 1)).foldl (hopStep g at_) n = hopStep g at_ n2 l[j] := by
        rw [List.take_succ_eq_append_getElem hjl', List.foldl_append, heq2]; rfl
      have he := hends l[j] (List.getElem_mem hjl')
      have hee := hendse l[j] (List.getElem_mem hjl')
      generalize l[j] = e at *
      have n5 : (0 : Int) ≤ j := by omega
      simp only [go_sem, Option.isSome_some, ↓reduceIte, if_true, if_false, Nat.reduceEqDiff, Nat.reduceAdd, Nat.reduceMul, Nat.reduceSub, Nat.reduceLT, Nat.reduceLeDiff, Nat.reduceDiv, Nat.reduceMod, Nat.reduceBEq, Int.reduceNeg, Int.reduceEq, Int.reduceNe, Int.reduceLT, Int.reduceLE, Int.reduceToNat, Int.reduceAdd, Int.reduceSub, Int.reduceMul, reduceCtorEq, decide_true, decide_false, Nat.zero_add, Nat.add_zero, Nat.zero_mul, Nat.sub_zero, Int.toNat_natCast, true_and, and_true, false_and, and_false, ne_eq, not_false_eq_true, not_true_eq_false, beq_self_eq_true, Bool.false_eq_true, Nat.le_refl, Nat.zero_le, n5, x4, rowAt_get u1]
      refine good_imm (ends_ok g e hee) rfl ?_
      have r4 : (g.ends e).2.1.toNat < n2.1.length := by rw [hcn2.l1]; omega
      have r5 : (g.ends e).2.1 < (g.n.toNat : Int) := by omega
      have r6 := he.1
      have hst := hcn2.step hat he
      have b1 := hcn2.at1 hat.1 hat.2
      have b2 := hcn2.at1 he.1 he.2
      have b3 := hcn2.at2 hat.1 hat.2
      have b4 := hcn2.at2 he.1 he.2
      unfold hopStep at htake2 hst
      generalize (g.ends e).2.1 = c at *
      have x5 := mem_at0 hcn2.l1 he.1 he.2
      have x6 := mem_at0 hcn2.l1 hat.1 hat.2
      have x7 := mem_at0 hcn2.l2 he.1 he.2
      have x8 := mem_at0 hcn2.l2 hat.1 hat.2
      have hi40 : i ≤ 40 := by omega
      have hj40 : i * 240 + j ≤ 1000000 := by omega
      have w1 := wrap_small b1.1 (by omega)
      have w2 := wrap_small b3.1 (by omega)
      have w4 : IntKind.i64.wrap ((j : Int) + 1) = ((j + 1 : Nat) : Int) := by rw [wrap_id (by omega) (by omega)]; rfl
      have hrs : ∀ x, (ints n2.1).set c.toNat [AVal.sc (.int .i64 x)] = ints (n2.1.set c.toNat x) := fun x => (ints_set _ _ _).symm
      have hrs2 : ∀ x, (ints n2.2).set c.toNat [AVal.sc (.int .i64 x)] = ints (n2.2.set c.toNat x) := fun x => (ints_set _ _ _).symm
      have umx : ∀ o, Ab.rowAt (τ2.set nid o) mid 0 = some (false, 1, ints n2.2) := fun o => by rw [rowAt_ne (fun e => a6 e.symm), rowAt_get u4]
      simp only [go_sem, Option.isSome_some, ↓reduceIte, if_true, if_false, Nat.reduceEqDiff, Nat.reduceAdd, Nat.reduceMul, Nat.reduceSub, Nat.reduceLT, Nat.reduceLeDiff, Nat.reduceDiv, Nat.reduceMod, Nat.reduceBEq, Int.reduceNeg, Int.reduceEq, Int.reduceNe, Int.reduceLT, Int.reduceLE, Int.reduceToNat, Int.reduceAdd, Int.reduceSub, Int.reduceMul, reduceCtorEq, decide_true, decide_false, Nat.zero_add, Nat.add_zero, Nat.zero_mul, Nat.sub_zero, Int.toNat_natCast, true_and, and_true, false_and, and_false, ne_eq, not_false_eq_true, not_true_eq_false, beq_self_eq_true, Bool.false_eq_true, Nat.le_refl, Nat.zero_le]
      unfold op9_74
      simp only [go_sem, Option.isSome_some, ↓reduceIte, if_true, if_false, Nat.reduceEqDiff, Nat.reduceAdd, Nat.reduceMul, Nat.reduceSub, Nat.reduceLT, Nat.reduceLeDiff, Nat.reduceDiv, Nat.reduceMod, Nat.reduceBEq, Int.reduceNeg, Int.reduceEq, Int.reduceNe, Int.reduceLT, Int.reduceLE, Int.reduceToNat, Int.reduceAdd, Int.reduceSub, Int.reduceMul, reduceCtorEq, decide_true, decide_false, Nat.zero_add, Nat.add_zero, Nat.zero_mul, Nat.sub_zero, Int.toNat_natCast, true_and, and_true, false_and, and_false, ne_eq, not_false_eq_true, not_true_eq_false, beq_self_eq_true, Bool.false_eq_true, Nat.le_refl, Nat.zero_le, rowAt_get u3, rowAt_get u4, umx, r5, r6, r2, r3, x5, x6, x7, x8, w1, w2, w4, hrs, hrs2]
      refine back_of (l.length - (j + 1)) (Nat.sub_lt_sub_left hjl' (Nat.lt_succ_self j)) ⟨j + 1, _, hjl', rfl, rfl, ?_, ?_, ?_, ?_, (by rw [← Nat.add_assoc]; exact hst), htake2.symm⟩
      · rw [Store.get_set_ne _ _ a4, Store.get_set_ne _ _ a2, u1]
      · rw [Store.get_set_ne _ _ a5, Store.get_set_ne _ _ a3, u2]
      · rw [Store.get_set_ne _ _ a6, Store.get_set_self]; rfl
      · rw [Store.get_set_self]; rfl
    · have e : j = l.length := by omega
      subst e
      rw [List.take_length] at heq2
      have w4 : IntKind.i64.wrap ((i : Int) + 1) = ((i + 1 : Nat) : Int) := by rw [wrap_id (by omega) (by omega)]; rfl
      simp only [go_sem, Option.isSome_some, ↓reduceIte, if_true, if_false, Nat.reduceEqDiff, Nat.reduceAdd, Nat.reduceMul, Nat.reduceSub, Nat.reduceLT, Nat.reduceLeDiff, Nat.reduceDiv, Nat.reduceMod, Nat.reduceBEq, Int.reduceNeg, Int.reduceEq, Int.reduceNe, Int.reduceLT, Int.reduceLE, Int.reduceToNat, Int.reduceAdd, Int.reduceSub, Int.reduceMul, reduceCtorEq, decide_true, decide_false, Nat.zero_add, Nat.add_zero, Nat.zero_mul, Nat.sub_zero, Int.toNat_natCast, true_and, and_true, false_and, and_false, ne_eq, not_false_eq_true, not_true_eq_false, beq_self_eq_true, Bool.false_eq_true, Nat.le_refl, Nat.zero_le, w4]
      have hk : i * 240 + l.length ≤ (i + 1) * 240 := by omega
      have hcn3 : HopOk g ((i + 1) * 240) n2 := hcn2.mono hk
      exact back_of (S.length - (i + 1)) (Nat.sub_lt_sub_left hil' (Nat.lt_succ_self i)) ⟨i + 1, n2, hil', rfl, rfl, u1, u2, u3, u4, hcn3, by rw [htake, heq2]⟩
  · have e : i = S.length := by omega
    subst e
    rw [List.take_length] at heq
    have r1 : to < (g.n.toNat : Int) := by omega
    have r2 := gb.2.1
    have x1 := mem_at0 hcn.l1 gb.2.1 gb.2.2
    have x2 := mem_at0 hcn.l2 gb.2.1 gb.2.2
    simp only [go_sem, Option.isSome_some, ↓reduceIte, if_true, if_false, Nat.reduceEqDiff, Nat.reduceAdd, Nat.reduceMul, Nat.reduceSub, Nat.reduceLT, Nat.reduceLeDiff, Nat.reduceDiv, Nat.reduceMod, Nat.reduceBEq, Int.reduceNeg, Int.reduceEq, Int.reduceNe, Int.reduceLT, Int.reduceLE, Int.reduceToNat, Int.reduceAdd, Int.reduceSub, Int.reduceMul, reduceCtorEq, decide_true, decide_false, Nat.zero_add, Nat.add_zero, Nat.zero_mul, Nat.sub_zero, Int.toNat_natCast, true_and, and_true, false_and, and_false, ne_eq, not_false_eq_true, not_true_eq_false, beq_self_eq_true, Bool.false_eq_true, Nat.le_refl, Nat.zero_le]
    unfold op9_102
    simp only [go_sem, Option.isSome_some, ↓reduceIte, if_true, if_false, Nat.reduceEqDiff, Nat.reduceAdd, Nat.reduceMul, Nat.reduceSub, Nat.reduceLT, Nat.reduceLeDiff, Nat.reduceDiv, Nat.reduceMod, Nat.reduceBEq, Int.reduceNeg, Int.reduceEq, Int.reduceNe, Int.reduceLT, Int.reduceLE, Int.reduceToNat, Int.reduceAdd, Int.reduceSub, Int.reduceMul, reduceCtorEq, decide_true, decide_false, Nat.zero_add, Nat.add_zero, Nat.zero_mul, Nat.sub_zero, Int.toNat_natCast, true_and, and_true, false_and, and_false, ne_eq, not_false_eq_true, not_true_eq_false, beq_self_eq_true, Bool.false_eq_true, Nat.le_refl, Nat.zero_le, rowAt_get g3, rowAt_get g4, r1, r2, x1, x2]
    rw [hdef, ← heq]
    exact out_tup3 out_sc out_sc out_sc
end Go.Proofs

set_option linter.unusedSimpArgs false
set_option linter.unusedVariables false
namespace Go.Proofs
open Go.Ab

def sortI (l : List Int) : List Int := l.mergeSort fun x y => decide (x ≤ y)
theorem sortI_len (l : List Int) : (sortI l).length = l.length := by simp [sortI]
def flatN (nx : Int → List Int) (N : List Int) (n : Nat) : List Int := (List.range n).flatMap fun (i : Nat) => if (i : Int) ∈ N then nx i else []
theorem flatN_succ (nx : Int → List Int) (N : List Int) (n : Nat) : flatN nx N (n + 1) = flatN nx N n ++ (if (n : Int) ∈ N then nx n else []) := by
  unfold flatN
  rw [List.range_succ, List.flatMap_append]
  simp
theorem flatN_len {nx : Int → List Int} {N : List Int} (h : ∀ x, (nx x).length ≤ 240) : ∀ n, (flatN nx N n).length ≤ n * 240
  | 0 => by simp [flatN]
  | n + 1 => by
    rw [flatN_succ, List.length_append]
    have := flatN_len (N := N) h n
    have h2 := h n
    split
    · omega
    · simp only [List.length_nil]; omega
def dusesOf (g : Gr) (down : List Bool) (from_ to : Int) : List Int :=
  if refFrom g down to ≠ [] ∧ (0 ≤ from_ ∧ from_ < g.n) ∧ 0 ≤ at0 (refFrom g down to) from_ then
    sortI (flatN (nextOf g down (refFrom g down to)) (nodesOf g (nextOf g down (refFrom g down to)) from_) g.n.toNat) else []

theorem blw_refl (w : World) : Blw w.heap.size w w := ⟨RowKit.Below.refl _ _, Nat.le_refl _⟩
theorem sort_acc {σ : Store} {v : AVal} {l : List Int} {others : List Nat} (h : Acc σ 1 v (ints l) others) (hl : l.length < 1000000000) {Q : AVal → Store → Prop}
    (hQ : ∀ σ', Acc σ' 1 v (ints (sortI l)) others → (∀ j ∈ others, σ'.get j = σ.get j) → Q (.tup []) σ') : Ab.Good Try.prog 23 [v] σ Q := by
  have hb : HasBody Try.prog 23 := ⟨_, Try.func23, rfl, by kernel_rfl⟩
  have hnone : ∀ p cap w, Calls Try.prog 23 #[.slice p 0 cap] w fun e w' => e = .returned (.tuple #[]) ∧ Blw w.heap.size w w' := fun p cap w => (Try.slices_Sort_int_none p cap w).mono fun e w' ⟨h1, h2⟩ => ⟨h1, by rw [h2]; exact blw_refl w⟩
  rcases h.2 with ⟨rfl, hr⟩ | ⟨id, ver, off, xs, rfl, h2, h3, h4, h5⟩
  · have e : l = [] := by
      cases l with
      | nil => rfl
      | cons a r => simp [ints] at hr
    subst e
    exact good_sort_nil hb hnone (hQ σ (by simpa [sortI] using h) (fun _ _ => rfl))
  · rw [ints_len] at h4 h5
    have := good_sort (P := Try.prog) (f := 23) (τ := Int) (σ := σ) (fun x => .int .i64 x) (fun _ => rfl) (fun d => (sortI d.toList).toArray) (fun d => by simp [sortI_len]) hb
      (fun blk off cap d w hH hb hs => by
        have := Try.slices_Sort_int blk off cap d.toList w (by simpa using hH) hb (by simpa using hs)
        rw [Array.length_toList] at this
        exact this)
      hnone (id := id) (ver := ver) (off := off) (rows := xs) h2 l.toArray (by simpa using h4) (by simp; omega) (by simp only [List.size_toArray]; rw [h5]; rfl) (Q := Q) ?_
    · rw [ints_len]; simpa using this
    · simp only [List.size_toArray]
      refine hQ _ ⟨h.1.set _ _, .inr ⟨id, ver, off, _, by rw [ints_len, ints_len, sortI_len], rowAt_self, h3, ?_, ?_⟩⟩ fun j hj => Store.get_set_ne _ _ (fun e => h3 (e ▸ hj))
      · simp only [List.length_append, List.length_take, List.length_drop, ints_len, List.length_map, sortI_len]; omega
      · rw [List.append_assoc, List.drop_append_of_le_length (by simp; omega), List.drop_of_length_le (by simp; omega), List.nil_append, List.take_left']
        · rfl
        · rfl

theorem duses_ok (g : Gr) (down : List Bool) (from_ to : Int) : PGood Try.prog 12 [g.val, .lst (bools down), .i from_, .i to] (.lst (ints (dusesOf g down from_ to))) := by
  refine pgood_of_out 3 (good_of_wp isF12 (Nat.le_refl _) ?_)
  unfold ac12
  simp only [go_sem, Option.isSome_some, ↓reduceIte, if_true, if_false, Nat.reduceEqDiff, Nat.reduceAdd, Nat.reduceMul, Nat.reduceSub, Nat.reduceLT, Nat.reduceLeDiff, Nat.reduceDiv, Nat.reduceMod, Nat.reduceBEq, Int.reduceNeg, Int.reduceEq, Int.reduceNe, Int.reduceLT, Int.reduceLE, Int.reduceToNat, Int.reduceAdd, Int.reduceSub, Int.reduceMul, reduceCtorEq, decide_true, decide_false, Nat.zero_add, Nat.add_zero, Nat.zero_mul, Nat.sub_zero, Int.toNat_natCast, true_and, and_true, false_and, and_false, ne_eq, not_false_eq_true, not_true_eq_false, beq_self_eq_true, Bool.false_eq_true, Nat.le_refl, Nat.zero_le, Gr.val]
  intro gid hgid
  simp only [go_sem, Option.isSome_some, ↓reduceIte, if_true, if_false, Nat.reduceEqDiff, Nat.reduceAdd, Nat.reduceMul, Nat.reduceSub, Nat.reduceLT, Nat.reduceLeDiff, Nat.reduceDiv, Nat.reduceMod, Nat.reduceBEq, Int.reduceNeg, Int.reduceEq, Int.reduceNe, Int.reduceLT, Int.reduceLE, Int.reduceToNat, Int.reduceAdd, Int.reduceSub, Int.reduceMul, reduceCtorEq, decide_true, decide_false, Nat.zero_add, Nat.add_zero, Nat.zero_mul, Nat.sub_zero, Int.toNat_natCast, true_and, and_true, false_and, and_false, ne_eq, not_false_eq_true, not_true_eq_false, beq_self_eq_true, Bool.false_eq_true, Nat.le_refl, Nat.zero_le]
  refine good_imm (find_ok g down from_ to) rfl ?_
  unfold findVal
  have bnil := refFrom_nil (g := g) (down := down) (node := to)
  have hdef : dusesOf g down from_ to = if refFrom g down to ≠ [] ∧ (0 ≤ from_ ∧ from_ < g.n) ∧ 0 ≤ at0 (refFrom g down to) from_ then
    sortI (flatN (nextOf g down (refFrom g down to)) (nodesOf g (nextOf g down (refFrom g down to)) from_) g.n.toNat) else [] := rfl
  generalize refFrom g down to = b at *
  by_cases hc : b ≠ [] ∧ (0 ≤ from_ ∧ from_ < g.n) ∧ 0 ≤ at0 b from_
  case neg =>
    rw [if_neg hc] at hdef ⊢
    simp only [go_sem, Option.isSome_some, ↓reduceIte, if_true, if_false, Nat.reduceEqDiff, Nat.reduceAdd, Nat.reduceMul, Nat.reduceSub, Nat.reduceLT, Nat.reduceLeDiff, Nat.reduceDiv, Nat.reduceMod, Nat.reduceBEq, Int.reduceNeg, Int.reduceEq, Int.reduceNe, Int.reduceLT, Int.reduceLE, Int.reduceToNat, Int.reduceAdd, Int.reduceSub, Int.reduceMul, reduceCtorEq, decide_true, decide_false, Nat.zero_add, Nat.add_zero, Nat.zero_mul, Nat.sub_zero, Int.toNat_natCast, true_and, and_true, false_and, and_false, ne_eq, not_false_eq_true, not_true_eq_false, beq_self_eq_true, Bool.false_eq_true, Nat.le_refl, Nat.zero_le]
    refine loop_rule (fun m fr τ => fr = [(9, .nils), (17, .nils), (18, .i 0), (19, .i 0)]) 0 rfl ?_
    rintro m fr τ rfl
    simp only [go_sem, Option.isSome_some, ↓reduceIte, if_true, if_false, Nat.reduceEqDiff, Nat.reduceAdd, Nat.reduceMul, Nat.reduceSub, Nat.reduceLT, Nat.reduceLeDiff, Nat.reduceDiv, Nat.reduceMod, Nat.reduceBEq, Int.reduceNeg, Int.reduceEq, Int.reduceNe, Int.reduceLT, Int.reduceLE, Int.reduceToNat, Int.reduceAdd, Int.reduceSub, Int.reduceMul, reduceCtorEq, decide_true, decide_false, Nat.zero_add, Nat.add_zero, Nat.zero_mul, Nat.sub_zero, Int.toNat_natCast, true_and, and_true, false_and, and_false, ne_eq, not_false_eq_true, not_true_eq_false, beq_self_eq_true, Bool.false_eq_true, Nat.le_refl, Nat.zero_le]
    refine sort_acc (l := []) (others := []) (acc_nils alive_nil) (by simp) fun τ6 c1 c2 => ?_
    simp only [go_sem, Option.isSome_some, ↓reduceIte, if_true, if_false, Nat.reduceEqDiff, Nat.reduceAdd, Nat.reduceMul, Nat.reduceSub, Nat.reduceLT, Nat.reduceLeDiff, Nat.reduceDiv, Nat.reduceMod, Nat.reduceBEq, Int.reduceNeg, Int.reduceEq, Int.reduceNe, Int.reduceLT, Int.reduceLE, Int.reduceToNat, Int.reduceAdd, Int.reduceSub, Int.reduceMul, reduceCtorEq, decide_true, decide_false, Nat.zero_add, Nat.add_zero, Nat.zero_mul, Nat.sub_zero, Int.toNat_natCast, true_and, and_true, false_and, and_false, ne_eq, not_false_eq_true, not_true_eq_false, beq_self_eq_true, Bool.false_eq_true, Nat.le_refl, Nat.zero_le]
    rw [hdef]; exact out_nils
  rw [if_pos hc] at hdef ⊢
  obtain ⟨hb, hn, hge⟩ := hc
  have gb : g.check.2 = 0 ∧ 0 ≤ to ∧ to < g.n := Decidable.byContradiction fun h => hb (bnil.2 h)
  obtain ⟨k1, k2, k3, k4⟩ := g.check_ok.1 gb.1
  have hnxl : ∀ at_, (nextOf g down b at_).length ≤ 240 := fun at_ => by
    unfold nextOf
    split
    · exact Nat.le_trans (List.length_filter_le _ _) (by have := g.out_len at_; omega)
    · simp
  generalize nextOf g down b = nx at *
  generalize nodesOf g nx from_ = N at *
  generalize sortNd b (g.n.toNat - 1) N = S at *
  simp only [go_sem, Option.isSome_some, ↓reduceIte, if_true, if_false, Nat.reduceEqDiff, Nat.reduceAdd, Nat.reduceMul, Nat.reduceSub, Nat.reduceLT, Nat.reduceLeDiff, Nat.reduceDiv, Nat.reduceMod, Nat.reduceBEq, Int.reduceNeg, Int.reduceEq, Int.reduceNe, Int.reduceLT, Int.reduceLE, Int.reduceToNat, Int.reduceAdd, Int.reduceSub, Int.reduceMul, reduceCtorEq, decide_true, decide_false, Nat.zero_add, Nat.add_zero, Nat.zero_mul, Nat.sub_zero, Int.toNat_natCast, true_and, and_true, false_and, and_false, ne_eq, not_false_eq_true, not_true_eq_false, beq_self_eq_true, Bool.false_eq_true, Nat.le_refl, Nat.zero_le]
  have hrl := nextRows_len nx N g.n.toNat
  refine loop_rule (fun m fr τ => ∃ (i : Nat) (v : AVal), i ≤ g.n.toNat ∧ m = g.n.toNat - i ∧ fr = [(9, v), (17, .lst (nextRows nx N g.n.toNat)), (18, .i (g.n.toNat : Nat)), (19, .i i)] ∧ Acc τ 1 v (ints (flatN nx N i)) []) g.n.toNat
    ⟨0, .nils, by omega, rfl, by rw [hrl]; rfl, acc_nils alive_nil⟩ ?_
  rintro m fr τ ⟨i, v, hi, rfl, rfl, acc⟩
  simp only [go_sem, Option.isSome_some, ↓reduceIte, if_true, if_false, Nat.reduceEqDiff, Nat.reduceAdd, Nat.reduceMul, Nat.reduceSub, Nat.reduceLT, Nat.reduceLeDiff, Nat.reduceDiv, Nat.reduceMod, Nat.reduceBEq, Int.reduceNeg, Int.reduceEq, Int.reduceNe, Int.reduceLT, Int.reduceLE, Int.reduceToNat, Int.reduceAdd, Int.reduceSub, Int.reduceMul, reduceCtorEq, decide_true, decide_false, Nat.zero_add, Nat.add_zero, Nat.zero_mul, Nat.sub_zero, Int.toNat_natCast, true_and, and_true, false_and, and_false, ne_eq, not_false_eq_true, not_true_eq_false, beq_self_eq_true, Bool.false_eq_true, Nat.le_refl, Nat.zero_le, hrl]
  refine .intro (fun hil => ?_) (fun hil => ?_)
  · have n4 : (0 : Int) ≤ i := by omega
    have n5 : i < g.n.toNat := by omega
    have x1 := nextRows_get nx N (x := (i : Int)) n4 (n := g.n.toNat) (by simpa using n5)
    have w4 : IntKind.i64.wrap ((i : Int) + 1) = ((i + 1 : Nat) : Int) := by rw [wrap_id (by omega) (by omega)]; rfl
    have hil2 : (i : Int) < ((nextRows nx N g.n.toNat).length : Nat) := by rw [hrl]; exact hil
    have hfl := flatN_len (N := N) hnxl i
    have hni := hnxl i
    have hsucc := flatN_succ nx N i
    rw [Int.toNat_natCast] at x1
    simp only [go_sem, Option.isSome_some, ↓reduceIte, if_true, if_false, Nat.reduceEqDiff, Nat.reduceAdd, Nat.reduceMul, Nat.reduceSub, Nat.reduceLT, Nat.reduceLeDiff, Nat.reduceDiv, Nat.reduceMod, Nat.reduceBEq, Int.reduceNeg, Int.reduceEq, Int.reduceNe, Int.reduceLT, Int.reduceLE, Int.reduceToNat, Int.reduceAdd, Int.reduceSub, Int.reduceMul, reduceCtorEq, decide_true, decide_false, Nat.zero_add, Nat.add_zero, Nat.zero_mul, Nat.sub_zero, Int.toNat_natCast, true_and, and_true, false_and, and_false, ne_eq, not_false_eq_true, not_true_eq_false, beq_self_eq_true, Bool.false_eq_true, Nat.le_refl, Nat.zero_le, n4, hil2, x1]
    by_cases hm : (i : Int) ∈ N
    · rw [if_pos hm] at hsucc
      simp only [go_sem, Option.isSome_some, ↓reduceIte, if_true, if_false, Nat.reduceEqDiff, Nat.reduceAdd, Nat.reduceMul, Nat.reduceSub, Nat.reduceLT, Nat.reduceLeDiff, Nat.reduceDiv, Nat.reduceMod, Nat.reduceBEq, Int.reduceNeg, Int.reduceEq, Int.reduceNe, Int.reduceLT, Int.reduceLE, Int.reduceToNat, Int.reduceAdd, Int.reduceSub, Int.reduceMul, reduceCtorEq, decide_true, decide_false, Nat.zero_add, Nat.add_zero, Nat.zero_mul, Nat.sub_zero, Int.toNat_natCast, true_and, and_true, false_and, and_false, ne_eq, not_false_eq_true, not_true_eq_false, beq_self_eq_true, Bool.false_eq_true, Nat.le_refl, Nat.zero_le, hm]
      refine acc_append acc (by simp only [ints_len]; omega) (by simp only [ints_len]; omega) fun v' σ' c1 c2 => ?_
      rw [← ints_app, ← hsucc] at c1
      simp only [go_sem, Option.isSome_some, ↓reduceIte, if_true, if_false, Nat.reduceEqDiff, Nat.reduceAdd, Nat.reduceMul, Nat.reduceSub, Nat.reduceLT, Nat.reduceLeDiff, Nat.reduceDiv, Nat.reduceMod, Nat.reduceBEq, Int.reduceNeg, Int.reduceEq, Int.reduceNe, Int.reduceLT, Int.reduceLE, Int.reduceToNat, Int.reduceAdd, Int.reduceSub, Int.reduceMul, reduceCtorEq, decide_true, decide_false, Nat.zero_add, Nat.add_zero, Nat.zero_mul, Nat.sub_zero, Int.toNat_natCast, true_and, and_true, false_and, and_false, ne_eq, not_false_eq_true, not_true_eq_false, beq_self_eq_true, Bool.false_eq_true, Nat.le_refl, Nat.zero_le, w4]
      exact back_of (g.n.toNat - (i + 1)) (by omega) ⟨i + 1, v', n5, rfl, rfl, c1⟩
    · rw [if_neg hm, List.append_nil] at hsucc
      simp only [go_sem, Option.isSome_some, ↓reduceIte, if_true, if_false, Nat.reduceEqDiff, Nat.reduceAdd, Nat.reduceMul, Nat.reduceSub, Nat.reduceLT, Nat.reduceLeDiff, Nat.reduceDiv, Nat.reduceMod, Nat.reduceBEq, Int.reduceNeg, Int.reduceEq, Int.reduceNe, Int.reduceLT, Int.reduceLE, Int.reduceToNat, Int.reduceAdd, Int.reduceSub, Int.reduceMul, reduceCtorEq, decide_true, decide_false, Nat.zero_add, Nat.add_zero, Nat.zero_mul, Nat.sub_zero, Int.toNat_natCast, true_and, and_true, false_and, and_false, ne_eq, not_false_eq_true, not_true_eq_false, beq_self_eq_true, Bool.false_eq_true, Nat.le_refl, Nat.zero_le, hm]
      have hnil : wpRes Try.prog (appendA τ 1 8 v []) _ τ := acc_append (K := fun v' σ' => v' = v' ∧ Acc σ' 1 v' (ints (flatN nx N i)) []) acc (by simp only [ints_len, List.length_nil]; omega) (by simp only [ints_len, List.length_nil]; omega) fun v' σ' c1 c2 => ⟨rfl, by simpa using c1⟩
      refine wpRes_mono (fun v' σ' hv => ?_) hnil
      obtain ⟨_, c1⟩ := hv
      simp only [go_sem, Option.isSome_some, ↓reduceIte, if_true, if_false, Nat.reduceEqDiff, Nat.reduceAdd, Nat.reduceMul, Nat.reduceSub, Nat.reduceLT, Nat.reduceLeDiff, Nat.reduceDiv, Nat.reduceMod, Nat.reduceBEq, Int.reduceNeg, Int.reduceEq, Int.reduceNe, Int.reduceLT, Int.reduceLE, Int.reduceToNat, Int.reduceAdd, Int.reduceSub, Int.reduceMul, reduceCtorEq, decide_true, decide_false, Nat.zero_add, Nat.add_zero, Nat.zero_mul, Nat.sub_zero, Int.toNat_natCast, true_and, and_true, false_and, and_false, ne_eq, not_false_eq_true, not_true_eq_false, beq_self_eq_true, Bool.false_eq_true, Nat.le_refl, Nat.zero_le, w4]
      exact back_of (g.n.toNat - (i + 1)) (by omega) ⟨i + 1, v', n5, rfl, rfl, by rw [hsucc]; exact c1⟩
  · have e : i = g.n.toNat := by omega
    subst e
    have hfl := flatN_len (N := N) hnxl g.n.toNat
    simp only [go_sem, Option.isSome_some, ↓reduceIte, if_true, if_false, Nat.reduceEqDiff, Nat.reduceAdd, Nat.reduceMul, Nat.reduceSub, Nat.reduceLT, Nat.reduceLeDiff, Nat.reduceDiv, Nat.reduceMod, Nat.reduceBEq, Int.reduceNeg, Int.reduceEq, Int.reduceNe, Int.reduceLT, Int.reduceLE, Int.reduceToNat, Int.reduceAdd, Int.reduceSub, Int.reduceMul, reduceCtorEq, decide_true, decide_false, Nat.zero_add, Nat.add_zero, Nat.zero_mul, Nat.sub_zero, Int.toNat_natCast, true_and, and_true, false_and, and_false, ne_eq, not_false_eq_true, not_true_eq_false, beq_self_eq_true, Bool.false_eq_true, Nat.le_refl, Nat.zero_le]
    refine sort_acc acc (by omega) fun τ6 c1 c2 => ?_
    simp only [go_sem, Option.isSome_some, ↓reduceIte, if_true, if_false, Nat.reduceEqDiff, Nat.reduceAdd, Nat.reduceMul, Nat.reduceSub, Nat.reduceLT, Nat.reduceLeDiff, Nat.reduceDiv, Nat.reduceMod, Nat.reduceBEq, Int.reduceNeg, Int.reduceEq, Int.reduceNe, Int.reduceLT, Int.reduceLE, Int.reduceToNat, Int.reduceAdd, Int.reduceSub, Int.reduceMul, reduceCtorEq, decide_true, decide_false, Nat.zero_add, Nat.add_zero, Nat.zero_mul, Nat.sub_zero, Int.toNat_natCast, true_and, and_true, false_and, and_false, ne_eq, not_false_eq_true, not_true_eq_false, beq_self_eq_true, Bool.false_eq_true, Nat.le_refl, Nat.zero_le]
    rw [hdef]
    exact acc_out c1 (ints_sc _)
end Go.Proofs

set_option linter.unusedSimpArgs false
set_option linter.unusedVariables false
namespace Go.Proofs
open Go.Ab

/-! ### Sums over lists: a list, but for its order -/
def sm {α : Type} (φ : α → Nat) : List α → Nat
  | [] => 0
  | x :: r => φ x + sm φ r
theorem sm_app {α : Type} (φ : α → Nat) : ∀ (l m : List α), sm φ (l ++ m) = sm φ l + sm φ m
  | [], m => by simp [sm]
  | x :: r, m => by simp only [List.cons_append, sm, sm_app φ r m]; omega
theorem sm_map {α β : Type} (φ : β → Nat) (h : α → β) : ∀ (l : List α), sm φ (l.map h) = sm (fun x => φ (h x)) l
  | [] => rfl
  | x :: r => by simp only [List.map_cons, sm, sm_map φ h r]
theorem sm_flat {α β : Type} (φ : β → Nat) (h : α → List β) : ∀ (l : List α), sm φ (l.flatMap h) = sm (fun x => sm φ (h x)) l
  | [] => rfl
  | x :: r => by simp only [List.flatMap_cons, sm_app, sm, sm_flat φ h r]
theorem sm_congr {α : Type} {φ ψ : α → Nat} : ∀ {l : List α}, (∀ x ∈ l, φ x = ψ x) → sm φ l = sm ψ l
  | [], _ => rfl
  | x :: r, h => by simp only [sm]; rw [h x (by simp), sm_congr fun y hy => h y (by simp [hy])]
theorem sm_add {α : Type} (φ ψ : α → Nat) : ∀ (l : List α), sm (fun x => φ x + ψ x) l = sm φ l + sm ψ l
  | [] => rfl
  | x :: r => by simp only [sm, sm_add φ ψ r]; omega
theorem sm_zero {α : Type} : ∀ (l : List α), sm (fun _ => 0) l = 0
  | [] => rfl
  | x :: r => by simp only [sm, sm_zero r]
theorem sm_swap {α β : Type} (φ : α → β → Nat) (m : List β) : ∀ (l : List α), sm (fun x => sm (fun y => φ x y) m) l = sm (fun y => sm (fun x => φ x y) l) m
  | [] => by simp only [sm]; rw [sm_zero]
  | x :: r => by simp only [sm, sm_swap φ m r]; rw [sm_add]
theorem sm_one {α : Type} : ∀ (l : List α), sm (fun _ => 1) l = l.length
  | [] => rfl
  | x :: r => by simp only [sm, sm_one r, List.length_cons]; omega
theorem sm_pos {k : Nat} : ∀ (l : List Nat), 0 < sm (fun x => if x = k then 1 else 0) l ↔ k ∈ l
  | [] => by simp [sm]
  | x :: r => by
    simp only [sm, List.mem_cons]
    have := sm_pos (k := k) r
    by_cases h : x = k
    · rw [if_pos h]; constructor
      · intro _; exact .inl h.symm
      · intro _; omega
    · rw [if_neg h, Nat.zero_add, this]
      constructor
      · exact .inr
      · rintro (h2 | h2)
        · exact absurd h2.symm h
        · exact h2
/-- One of them is another one. -/
theorem sm_upd {α : Type} [DecidableEq α] (φ ψ : α → Nat) (b : α) (k : Nat) (h1 : ψ b = φ b + k) (h2 : ∀ x, x ≠ b → ψ x = φ x) : ∀ (l : List α), l.Nodup → b ∈ l → sm ψ l = sm φ l + k
  | [], _, h => by cases h
  | x :: r, hn, h => by
    obtain ⟨n1, n2⟩ := List.nodup_cons.1 hn
    simp only [sm]
    by_cases e : x = b
    · subst e
      rw [h1, sm_congr (φ := ψ) (ψ := φ) fun y hy => h2 y fun e => n1 (e ▸ hy)]; omega
    · rw [h2 x e]
      have hb : b ∈ r := by
        rcases List.mem_cons.1 h with h | h
        · exact absurd h.symm e
        · exact h
      rw [sm_upd φ ψ b k h1 h2 r n2 hb]; omega
def Eqv (l m : List Nat) : Prop := ∀ φ : Nat → Nat, sm φ l = sm φ m
theorem Eqv.len {l m : List Nat} (h : Eqv l m) : l.length = m.length := by have := h fun _ => 1; rwa [sm_one, sm_one] at this
theorem Eqv.mem {l m : List Nat} (h : Eqv l m) (k : Nat) : k ∈ l ↔ k ∈ m := by rw [← sm_pos, ← sm_pos, h]

/-! ### The least and the greatest -/
def lo (n : Nat) (l : List Nat) : Nat := l.foldr min n
def hi (l : List Nat) : Nat := l.foldr max 0
theorem lo_le (n : Nat) : ∀ l : List Nat, lo n l ≤ n
  | [] => Nat.le_refl _
  | x :: r => by have := lo_le n r; simp only [lo, List.foldr_cons] at *; omega
theorem lo_mem (n : Nat) : ∀ (l : List Nat) {k : Nat}, k ∈ l → lo n l ≤ k
  | x :: r, k, h => by
    simp only [lo, List.foldr_cons]
    rcases List.mem_cons.1 h with h | h
    · subst h; omega
    · have := lo_mem n r h; simp only [lo] at this; omega
theorem lo_in (n : Nat) : ∀ (l : List Nat), lo n l = n ∨ lo n l ∈ l
  | [] => .inl rfl
  | x :: r => by
    have := lo_in n r
    simp only [lo, List.foldr_cons] at *
    by_cases h : x ≤ List.foldr min n r
    · right; rw [Nat.min_eq_left h]; simp
    · rw [Nat.min_eq_right (by omega)]
      rcases this with h | h
      · exact .inl h
      · exact .inr (by simp [h])
theorem hi_mem : ∀ (l : List Nat) {k : Nat}, k ∈ l → k ≤ hi l
  | x :: r, k, h => by
    simp only [hi, List.foldr_cons]
    rcases List.mem_cons.1 h with h | h
    · subst h; omega
    · have := hi_mem r h; simp only [hi] at this; omega
theorem hi_in : ∀ (l : List Nat), l ≠ [] → hi l ∈ l
  | [], h => absurd rfl h
  | [x], _ => by simp [hi]
  | x :: y :: r, _ => by
    have := hi_in (y :: r) (by simp)
    simp only [hi, List.foldr_cons] at *
    by_cases h : max y (List.foldr max 0 r) ≤ x
    · rw [Nat.max_eq_left h]; simp
    · rw [Nat.max_eq_right (by omega)]; exact List.mem_cons_of_mem _ this
theorem lo_app (n : Nat) (l m : List Nat) : lo n (l ++ m) = min (lo n l) (lo n m) := by
  induction l with
  | nil => have := lo_le n m; simp only [lo, List.nil_append, List.foldr_nil] at *; omega
  | cons x r ih => simp only [lo, List.cons_append, List.foldr_cons] at *; omega
theorem hi_app (l m : List Nat) : hi (l ++ m) = max (hi l) (hi m) := by
  induction l with
  | nil => simp [hi]
  | cons x r ih => simp only [hi, List.cons_append, List.foldr_cons] at *; omega
theorem lo_succ (n : Nat) (l : List Nat) : lo n (l.map (· + 1)) = min n (lo n l + 1) := by
  induction l with
  | nil => simp [lo]
  | cons x r ih => simp only [lo, List.map_cons, List.foldr_cons] at *; omega
theorem hi_succ (l : List Nat) (h : l ≠ []) : hi (l.map (· + 1)) = hi l + 1 := by
  induction l with
  | nil => exact absurd rfl h
  | cons x r ih =>
    by_cases hr : r = []
    · subst hr; simp [hi]
    · have := ih hr
      simp only [hi, List.map_cons, List.foldr_cons] at *; omega
theorem lo_eqv {n : Nat} {l m : List Nat} (h : Eqv l m) : lo n l = lo n m := by
  have key : ∀ {l m : List Nat}, Eqv l m → lo n m ≤ lo n l := fun {l m} h => by
    rcases lo_in n l with e | e
    · rw [e]; exact lo_le n m
    · exact lo_mem n m ((h.mem _).1 e)
  have h1 := key h
  have h2 := key (l := m) (m := l) fun φ => (h φ).symm
  omega
theorem hi_eqv {l m : List Nat} (h : Eqv l m) : hi l = hi m := by
  have key : ∀ {l m : List Nat}, Eqv l m → hi l ≤ hi m := fun {l m} h => by
    by_cases e : l = []
    · subst e; simp [hi]
    · exact hi_mem m ((h.mem _).1 (hi_in l e))
  have h1 := key h
  have h2 := key (l := m) (m := l) fun φ => (h φ).symm
  omega

/-! ### How many edges the shortest ways to the end have -/
def bk (g : Gr) (down : List Bool) (d : List Int) : Nat → Int → List Nat
  | 0, _ => [0]
  | N + 1, v => if at0 d v ≤ 0 then [0] else (nextOf g down d v).flatMap fun e => (bk g down d N (g.ends e).2.1).map (· + 1)
theorem flatMap_congr' {α β : Type} {f h : α → List β} : ∀ {l : List α}, (∀ x ∈ l, f x = h x) → l.flatMap f = l.flatMap h
  | [], _ => rfl
  | x :: r, e => by rw [List.flatMap_cons, List.flatMap_cons, e x (by simp), flatMap_congr' fun y hy => e y (by simp [hy])]
theorem bk_fuel {g : Gr} (hg : g.Ok) {down : List Bool} {d : List Int} : ∀ (k N M : Nat) (v : Int), (at0 d v).toNat ≤ k → k ≤ N → k ≤ M → bk g down d N v = bk g down d M v := by
  intro k
  induction k with
  | zero =>
    intro N M v hv _ _
    have h : at0 d v ≤ 0 := by omega
    have key : ∀ N, bk g down d N v = [0] := fun N => by
      cases N with
      | zero => rfl
      | succ N => unfold bk; rw [if_pos h]
    rw [key N, key M]
  | succ k ih =>
    intro N M v hv hN hM
    obtain ⟨N, rfl⟩ : ∃ n, N = n + 1 := ⟨N - 1, by omega⟩
    obtain ⟨M, rfl⟩ : ∃ n, M = n + 1 := ⟨M - 1, by omega⟩
    unfold bk
    by_cases h : at0 d v ≤ 0
    · rw [if_pos h, if_pos h]
    · rw [if_neg h, if_neg h]
      refine flatMap_congr' fun e he => ?_
      obtain ⟨_, _, _, e5, e6, e7, _⟩ := nextOf_mem hg he
      rw [ih N M _ (by omega) (by omega) (by omega)]
def bks (g : Gr) (down : List Bool) (d : List Int) (v : Int) : List Nat := bk g down d (at0 d v).toNat v
theorem bks_zero {g : Gr} {down : List Bool} {d : List Int} {v : Int} (h : at0 d v ≤ 0) : bks g down d v = [0] := by
  unfold bks
  rw [show (at0 d v).toNat = 0 by omega]
  rfl
theorem bks_step {g : Gr} (hg : g.Ok) {down : List Bool} {d : List Int} {v : Int} (h : 0 < at0 d v) : bks g down d v = (nextOf g down d v).flatMap fun e => (bks g down d (g.ends e).2.1).map (· + 1) := by
  have e : bks g down d v = bk g down d ((at0 d v).toNat - 1 + 1) v := by unfold bks; rw [show (at0 d v).toNat - 1 + 1 = (at0 d v).toNat by omega]
  rw [e]
  unfold bk
  rw [if_neg (by omega)]
  refine flatMap_congr' fun e he => ?_
  obtain ⟨_, _, _, e5, e6, e7, _⟩ := nextOf_mem hg he
  rw [bk_fuel hg _ _ (at0 d (g.ends e).2.1).toNat _ (Nat.le_refl _) (by omega) (Nat.le_refl _)]
  rfl
end Go.Proofs

set_option linter.unusedSimpArgs false
set_option linter.unusedVariables false
namespace Go.Proofs
open Go.Ab

/-! ### An edge the other way -/
def rev (e : Int) : Int := e + 1 - 2 * (e % 2)
theorem rev_ends (g : Gr) {e : Int} (h0 : 0 ≤ e) (h1 : e < 2 * (g.ls.length : Int)) : 0 ≤ rev e ∧ rev e < 2 * (g.ls.length : Int) ∧ (g.ends (rev e)).1 = (g.ends e).2.1 ∧ (g.ends (rev e)).2.1 = (g.ends e).1 ∧ g.metric (rev e) = g.metric e ∧ rev e / 2 = e / 2 := by
  have hd : rev e / 2 = e / 2 := by unfold rev; omega
  have h2 : 0 ≤ rev e := by unfold rev; omega
  have h3 : rev e < 2 * (g.ls.length : Int) := by unfold rev; omega
  have hlt : (e / 2).toNat < g.ls.length := by omega
  have key : ∀ x, 0 ≤ x → x < 2 * (g.ls.length : Int) → x / 2 = e / 2 → g.ends x = if x % 2 = 1 then ((g.ls[(e / 2).toNat]).b, (g.ls[(e / 2).toNat]).a, true) else ((g.ls[(e / 2).toNat]).a, (g.ls[(e / 2).toNat]).b, true) := fun x x0 x1 hx => by
    unfold Gr.ends
    rw [if_neg (by omega), hx, List.getElem?_eq_getElem hlt]
  have k1 := key e h0 h1 rfl
  have k2 := key (rev e) h2 h3 hd
  refine ⟨h2, h3, ?_, ?_, by unfold Gr.metric; rw [hd], hd⟩
  · rw [k1, k2]
    by_cases h : e % 2 = 1
    · rw [if_pos h, if_neg (by unfold rev; omega)]
    · rw [if_neg h, if_pos (by unfold rev; omega)]
  · rw [k1, k2]
    by_cases h : e % 2 = 1
    · rw [if_pos h, if_neg (by unfold rev; omega)]
    · rw [if_neg h, if_pos (by unfold rev; omega)]
theorem rev_up {g : Gr} {down : List Bool} {e : Int} (h0 : 0 ≤ e) (h1 : e < 2 * (g.ls.length : Int)) : isUp down (rev e) = isUp down e := by
  obtain ⟨_, _, _, _, _, h⟩ := rev_ends g h0 h1
  unfold isUp
  rw [h]
theorem mem_nextOf {g : Gr} (hg : g.Ok) {down : List Bool} {d : List Int} (hl : d.length = g.n.toNat) {v e : Int} (hv : 0 ≤ v ∧ v < g.n) (h0 : 0 < at0 d v) (e0 : 0 ≤ e) (e1 : e < 2 * (g.ls.length : Int)) (h1 : (g.ends e).1 = v) (hu : isUp down e = true)
    (h2 : 0 ≤ at0 d (g.ends e).2.1) (h3 : at0 d v = at0 d (g.ends e).2.1 + g.metric e) : e ∈ nextOf g down d v := by
  unfold nextOf
  rw [if_pos ⟨g.check_ok.2 hg, by have := hg.2.1; omega, hv, h0⟩, List.mem_filter]
  refine ⟨g.out_mem e0 e1 h1, ?_⟩
  unfold nextCond
  rw [hu, decide_eq_true h2, decide_eq_true h3]; rfl
/-- From each node that is not the end an edge leads on. -/
theorem next_some {g : Gr} (hg : g.Ok) {down : List Bool} {to : Int} {d : List Int} (hd : IsDist g down to d) {v : Int} (hv : 0 ≤ v ∧ v < g.n) (h0 : 0 ≤ at0 d v) : v = to ∧ at0 d v = 0 ∨ ∃ e, e ∈ nextOf g down d v := by
  rcases hd.reach v hv.1 hv.2 h0 with h | ⟨k, ⟨k0, k1, k2⟩, h1, h2, h3⟩
  · exact .inl h
  · obtain ⟨r1, r2, r3, r4, r5, r6⟩ := rev_ends g k0 k1
    obtain ⟨m1, _⟩ := g.metric_of hg k0 k1
    refine .inr ⟨rev k, mem_nextOf hg hd.len hv (by omega) r1 r2 (by rw [r3, h1]) (by rw [rev_up (g := g) k0 k1]; exact k2) (by rw [r4]; exact h2) (by rw [r4, r5]; exact h3)⟩
theorem bks_ne {g : Gr} (hg : g.Ok) {down : List Bool} {to : Int} {d : List Int} (hd : IsDist g down to d) : ∀ (k : Nat) (v : Int), (at0 d v).toNat ≤ k → 0 ≤ v ∧ v < g.n → 0 ≤ at0 d v → bks g down d v ≠ [] := by
  intro k
  induction k with
  | zero => intro v hv hr h0; rw [bks_zero (by omega)]; simp
  | succ k ih =>
    intro v hv hr h0
    by_cases h : at0 d v ≤ 0
    · rw [bks_zero h]; simp
    · rcases next_some hg hd hr h0 with h1 | ⟨e, he⟩
      · omega
      · obtain ⟨_, _, e4, e5, e6, e7, _⟩ := nextOf_mem hg he
        have := ih (g.ends e).2.1 (by omega) e4 e5
        obtain ⟨x, hx⟩ := List.exists_mem_of_ne_nil _ this
        rw [bks_step hg (by omega)]
        intro hnil
        have : x + 1 ∈ (nextOf g down d v).flatMap fun e => (bks g down d (g.ends e).2.1).map (· + 1) := List.mem_flatMap.2 ⟨e, he, List.mem_map.2 ⟨x, hx, rfl⟩⟩
        rw [hnil] at this
        cases this

/-! ### A shortest way is no longer than there are nodes -/
theorem countP_lt {α : Type} {p q : α → Bool} {x : α} (h : ∀ y, p y = true → q y = true) (hx : q x = true) (hn : p x = false) : ∀ l : List α, x ∈ l → l.countP p < l.countP q
  | y :: r, hm => by
    have hle : r.countP p ≤ r.countP q := List.countP_mono_left fun z _ hz => h z hz
    by_cases e : y = x
    · subst e
      rw [List.countP_cons_of_neg (by rw [hn]; simp), List.countP_cons_of_pos hx]; omega
    · have hm' : x ∈ r := by
        rcases List.mem_cons.1 hm with h | h
        · exact absurd h.symm e
        · exact h
      have ih := countP_lt h hx hn r hm'
      by_cases hp : p y = true
      · rw [List.countP_cons_of_pos hp, List.countP_cons_of_pos (h y hp)]; omega
      · rw [List.countP_cons_of_neg hp]
        by_cases hq : q y = true
        · rw [List.countP_cons_of_pos hq]; omega
        · rw [List.countP_cons_of_neg hq]; exact ih
def below (g : Gr) (d : List Int) (x : Int) : Nat := (List.range g.n.toNat).countP fun (i : Nat) => decide (0 ≤ at0 d (i : Int) ∧ at0 d (i : Int) ≤ x)
theorem below_le (g : Gr) (d : List Int) (x : Int) : below g d x ≤ g.n.toNat := by
  have := List.countP_le_length (p := fun (i : Nat) => decide (0 ≤ at0 d (i : Int) ∧ at0 d (i : Int) ≤ x)) (l := List.range g.n.toNat)
  simpa [below] using this
theorem below_lt {g : Gr} {d : List Int} {v x : Int} (hv : 0 ≤ v ∧ v < g.n) (h0 : 0 ≤ at0 d v) (hx : x < at0 d v) : below g d x < below g d (at0 d v) := by
  have e : ((v.toNat : Nat) : Int) = v := by omega
  refine countP_lt (x := v.toNat) (fun y hy => ?_) ?_ ?_ _ (List.mem_range.2 (by omega))
  · simp only [decide_eq_true_eq] at hy ⊢; omega
  · simp only [decide_eq_true_eq]; rw [e]; omega
  · simp only [decide_eq_false_iff_not]; rw [e]; omega
theorem bks_le {g : Gr} (hg : g.Ok) {down : List Bool} {d : List Int} : ∀ (k : Nat) (v : Int), (at0 d v).toNat ≤ k → 0 ≤ v ∧ v < g.n → 0 ≤ at0 d v → ∀ x ∈ bks g down d v, x < below g d (at0 d v) := by
  intro k
  induction k with
  | zero =>
    intro v hv hr h0 x hx
    rw [bks_zero (by omega)] at hx
    have : x = 0 := by simpa using hx
    have := below_lt hr h0 (x := at0 d v - 1) (by omega)
    omega
  | succ k ih =>
    intro v hv hr h0 x hx
    by_cases h : at0 d v ≤ 0
    · rw [bks_zero h] at hx
      have : x = 0 := by simpa using hx
      have := below_lt hr h0 (x := at0 d v - 1) (by omega)
      omega
    · rw [bks_step hg (by omega)] at hx
      obtain ⟨e, he, hx⟩ := List.mem_flatMap.1 hx
      obtain ⟨y, hy, rfl⟩ := List.mem_map.1 hx
      obtain ⟨_, _, e4, e5, e6, e7, _⟩ := nextOf_mem hg he
      have h1 := ih (g.ends e).2.1 (by omega) e4 e5 y hy
      have h2 := below_lt hr h0 (x := at0 d (g.ends e).2.1) (by omega)
      omega

/-! ### What the reference counts -/
def cap (k : Nat) : Int := if (k : Int) < 1099511627776 then (k : Int) else 1099511627776
theorem cutS_cap (a b : Nat) : cutS (cap a + cap b) = cap (a + b) := by
  unfold cutS cap
  by_cases h1 : (a : Int) < 1099511627776
  · by_cases h2 : (b : Int) < 1099511627776
    · rw [if_pos h1, if_pos h2, if_neg (by omega)]
      by_cases h3 : ((a + b : Nat) : Int) < 1099511627776
      · rw [if_pos h3, if_neg (by omega)]; omega
      · rw [if_neg h3]
        by_cases h4 : (1099511627776 : Int) < (a : Int) + b
        · rw [if_pos h4]
        · rw [if_neg h4]; omega
    · rw [if_pos h1, if_neg h2, if_neg (by omega), if_neg (c := ((a + b : Nat) : Int) < 1099511627776) (by omega)]
      by_cases h4 : (1099511627776 : Int) < (a : Int) + 1099511627776
      · rw [if_pos h4]
      · rw [if_neg h4]; omega
  · rw [if_neg h1, if_neg (c := ((a + b : Nat) : Int) < 1099511627776) (by omega)]
    by_cases h2 : (b : Int) < 1099511627776
    · rw [if_pos h2, if_neg (by omega)]
      by_cases h4 : (1099511627776 : Int) < 1099511627776 + (b : Int)
      · rw [if_pos h4]
      · rw [if_neg h4]; omega
    · rw [if_neg h2, if_neg (by omega), if_pos (by omega)]
theorem ways_cap {g : Gr} {P : Int → Int} {B : Int → List Nat} (l : List Int) : ∀ (a b : Nat), (∀ e ∈ l, P (g.ends e).2.1 = cap (B (g.ends e).2.1).length) → b = a + (l.flatMap fun e => (B (g.ends e).2.1).map (· + 1)).length → l.foldl (waysStep P g) (cap a) = cap b := by
  induction l with
  | nil =>
    intro a b _ hb
    have e : b = a := by simpa using hb
    rw [e, List.foldl_nil]
  | cons e r ih =>
    intro a b h hb
    have h1 : waysStep P g (cap a) e = cap (a + (B (g.ends e).2.1).length) := by
      unfold waysStep
      rw [h e List.mem_cons_self, cutS_cap]
    rw [List.flatMap_cons, List.length_append, List.length_map] at hb
    rw [List.foldl_cons, h1]
    exact ih _ b (fun x hx => h x (List.mem_cons_of_mem _ hx)) (by omega)
theorem few_lo {g : Gr} {F : Int → Int} {B : Int → List Nat} {n : Nat} : ∀ (l : List Int) (s : Nat), (∀ e ∈ l, F (g.ends e).2.1 = (lo n (B (g.ends e).2.1) : Nat) ∧ lo n (B (g.ends e).2.1) < n) → s ≤ n →
    (l.foldl (fewStep F g) (false, (s : Int))).2 = ((min s (lo n (l.flatMap fun e => (B (g.ends e).2.1).map (· + 1))) : Nat) : Int)
  | [], s, _, hs => by simp [lo]; omega
  | e :: r, s, h, hs => by
    obtain ⟨h1, h2⟩ := h e (by simp)
    have h3 : fewStep F g (false, (s : Int)) e = (false, ((min s (lo n (B (g.ends e).2.1) + 1) : Nat) : Int)) := by
      unfold fewStep
      simp only [h1, Bool.false_eq_true, false_or]
      congr 1
      split <;> omega
    rw [List.foldl_cons, h3, few_lo r _ (fun x hx => h x (by simp [hx])) (by omega), List.flatMap_cons, lo_app, lo_succ]
    omega
theorem many_hi {g : Gr} {M : Int → Int} {B : Int → List Nat} : ∀ (l : List Int) (s : Nat), (∀ e ∈ l, M (g.ends e).2.1 = (hi (B (g.ends e).2.1) : Nat) ∧ B (g.ends e).2.1 ≠ []) →
    l.foldl (manyStep M g) (s : Int) = ((max s (hi (l.flatMap fun e => (B (g.ends e).2.1).map (· + 1))) : Nat) : Int)
  | [], s, _ => by simp [hi]
  | e :: r, s, h => by
    obtain ⟨h1, h2⟩ := h e (by simp)
    have h3 : manyStep M g (s : Int) e = ((max s (hi (B (g.ends e).2.1) + 1) : Nat) : Int) := by
      unfold manyStep
      rw [h1]
      split <;> omega
    rw [List.foldl_cons, h3, many_hi r _ (fun x hx => h x (by simp [hx])), List.flatMap_cons, hi_app, hi_succ _ h2]
    congr 1
    omega
theorem cnt_bks {g : Gr} (hg : g.Ok) {down : List Bool} {to : Int} {d : List Int} (hd : IsDist g down to d) : ∀ (k : Nat) (v : Int), (at0 d v).toNat ≤ k → 0 ≤ v ∧ v < g.n → 0 ≤ at0 d v →
    cP g down d v = cap (bks g down d v).length ∧ cF g down d v = (lo g.n.toNat (bks g down d v) : Nat) ∧ cM g down d v = (hi (bks g down d v) : Nat) := by
  intro k
  have n1 := hg.2.1
  have zero : ∀ v, 0 ≤ at0 d v → at0 d v ≤ 0 → cP g down d v = cap (bks g down d v).length ∧ cF g down d v = (lo g.n.toNat (bks g down d v) : Nat) ∧ cM g down d v = (hi (bks g down d v) : Nat) := fun v h0 h => by
    have e := cntOf_zero (g := g) (down := down) h
    unfold cP cF cM
    rw [e, bks_zero h]
    exact ⟨rfl, by simp [lo], rfl⟩
  induction k with
  | zero => intro v hv hr h0; exact zero v h0 (by omega)
  | succ k ih =>
    intro v hv hr h0
    by_cases h : at0 d v ≤ 0
    · exact zero v h0 h
    have e := cntOf_step hg (down := down) (d := d) (v := v) (by omega)
    have key : ∀ e ∈ nextOf g down d v, (cP g down d (g.ends e).2.1 = cap (bks g down d (g.ends e).2.1).length) ∧ (cF g down d (g.ends e).2.1 = (lo g.n.toNat (bks g down d (g.ends e).2.1) : Nat) ∧ lo g.n.toNat (bks g down d (g.ends e).2.1) < g.n.toNat) ∧
        (cM g down d (g.ends e).2.1 = (hi (bks g down d (g.ends e).2.1) : Nat) ∧ bks g down d (g.ends e).2.1 ≠ []) := fun e he => by
      obtain ⟨_, _, e4, e5, e6, e7, _⟩ := nextOf_mem hg he
      obtain ⟨p1, p2, p3⟩ := ih (g.ends e).2.1 (by omega) e4 e5
      have hne := bks_ne hg hd _ (g.ends e).2.1 (Nat.le_refl _) e4 e5
      refine ⟨p1, ⟨p2, ?_⟩, p3, hne⟩
      obtain ⟨x, hx⟩ := List.exists_mem_of_ne_nil _ hne
      have h1 := lo_mem g.n.toNat _ hx
      have h2 := bks_le hg (down := down) _ (g.ends e).2.1 (Nat.le_refl _) e4 e5 x hx
      have h3 := below_le g d (at0 d (g.ends e).2.1)
      omega
    rw [bks_step hg (by omega)]
    refine ⟨?_, ?_, ?_⟩
    · have : cP g down d v = (nextOf g down d v).foldl (waysStep (cP g down d) g) (cap 0) := by conv => lhs; unfold cP; rw [e]
                                                                                                rfl
      rw [this]
      exact ways_cap (B := bks g down d) _ _ _ (fun e he => (key e he).1) (Nat.zero_add _).symm
    · have : cF g down d v = ((nextOf g down d v).foldl (fewStep (cF g down d) g) (true, 0)).2 := by conv => lhs; unfold cF; rw [e]
      rw [this]
      have hne : nextOf g down d v ≠ [] := fun hnil => by
        rcases next_some hg hd hr h0 with h1 | ⟨e, he⟩
        · omega
        · rw [hnil] at he; cases he
      generalize nextOf g down d v = l at *
      clear e
      cases l with
      | nil => exact absurd rfl hne
      | cons e r =>
        obtain ⟨h1, h2⟩ := (key e (by simp)).2.1
        have h3 : fewStep (cF g down d) g (true, 0) e = (false, ((lo g.n.toNat (bks g down d (g.ends e).2.1) + 1 : Nat) : Int)) := by
          unfold fewStep
          simp only [h1, true_or, if_true]
          rfl
        rw [List.foldl_cons, h3, few_lo (B := bks g down d) r _ (fun x hx => (key x (by simp [hx])).2.1) (by omega), List.flatMap_cons, lo_app, lo_succ]
        congr 1
        omega
    · have : cM g down d v = (nextOf g down d v).foldl (manyStep (cM g down d) g) ((0 : Nat) : Int) := by conv => lhs; unfold cM; rw [e]
                                                                                                          rfl
      rw [this, many_hi (B := bks g down d) _ _ fun e he => (key e he).2.2]
      congr 1
end Go.Proofs

set_option linter.unusedSimpArgs false
set_option linter.unusedVariables false
namespace Go.Proofs
open Go.Ab

def fstep (g : Gr) (at_ : Int) (f : Int → List Nat) (e : Int) : Int → List Nat := fun v => if v = (g.ends e).2.1 then f v ++ (f at_).map (· + 1) else f v
def wt (B : Int → List Nat) (f : Int → List Nat) (φ : Nat → Nat) (v : Int) : Nat := sm (fun a => sm (fun b => φ (a + b)) (B v)) (f v)

theorem cap_add (a b : Nat) : (if cap a + cap b < 1099511627776 then cap a + cap b else 1099511627776) = cap (a + b) := by
  unfold cap
  by_cases h1 : (a : Int) < 1099511627776
  · by_cases h2 : (b : Int) < 1099511627776
    · rw [if_pos h1, if_pos h2]
      by_cases h3 : ((a + b : Nat) : Int) < 1099511627776
      · rw [if_pos h3, if_pos (by omega)]; omega
      · rw [if_neg h3, if_neg (by omega)]
    · rw [if_pos h1, if_neg h2, if_neg (by omega), if_neg (by omega)]
  · rw [if_neg h1, if_neg (c := ((a + b : Nat) : Int) < 1099511627776) (by omega)]
    by_cases h2 : (b : Int) < 1099511627776
    · rw [if_pos h2, if_neg (by omega)]
    · rw [if_neg h2, if_neg (by omega)]

/-- The program's numbers, and the lists that they tell of. -/
structure DRel (g : Gr) (f : Int → List Nat) (n : List Int) (s : List Int × List Int) : Prop where
  ln : n.length = g.n.toNat
  l1 : s.1.length = g.n.toNat
  l2 : s.2.length = g.n.toNat
  c : ∀ v, 0 ≤ v → v < g.n → at0 n v = cap (f v).length
  few : ∀ v, 0 ≤ v → v < g.n → at0 s.1 v = (lo g.n.toNat (f v) : Nat)
  many : ∀ v, 0 ≤ v → v < g.n → at0 s.2 v = (hi (f v) : Nat)

theorem at0_set' {n : List Int} {N : Int} (hl : n.length = N.toNat) {u v x : Int} (hu : 0 ≤ u ∧ u < N) (hv : 0 ≤ v) : at0 (n.set u.toNat x) v = if v = u then x else at0 n v := at0_set hu.1 (by omega) hv

theorem drel_step {g : Gr} {f : Int → List Nat} {n : List Int} {s : List Int × List Int} (h : DRel g f n s) {at_ e : Int} (ha : 0 ≤ at_ ∧ at_ < g.n) (he : 0 ≤ (g.ends e).2.1 ∧ (g.ends e).2.1 < g.n) (hne : f at_ ≠ []) :
    DRel g (fstep g at_ f e) (cntStep g at_ n e) (hopStep g at_ s e) := by
  refine ⟨by simpa [cntStep] using h.ln, by simpa [hopStep] using h.l1, by simpa [hopStep] using h.l2, fun v v0 v1 => ?_, fun v v0 v1 => ?_, fun v v0 v1 => ?_⟩
  · unfold cntStep fstep
    rw [at0_set' h.ln he v0]
    by_cases hv : v = (g.ends e).2.1
    · rw [if_pos hv, if_pos hv, hv, h.c _ he.1 he.2, h.c _ ha.1 ha.2, cap_add]
      congr 1
      simp
    · rw [if_neg hv, if_neg hv, h.c v v0 v1]
  · unfold hopStep fstep hopF
    simp only
    rw [at0_set' h.l1 he v0]
    by_cases hv : v = (g.ends e).2.1
    · rw [if_pos hv, if_pos hv, hv, h.few _ he.1 he.2, h.few _ ha.1 ha.2, lo_app, lo_succ]
      have := lo_le g.n.toNat (f (g.ends e).2.1)
      split <;> omega
    · rw [if_neg hv, if_neg hv, h.few v v0 v1]
  · unfold hopStep fstep hopM
    simp only
    rw [at0_set' h.l2 he v0]
    by_cases hv : v = (g.ends e).2.1
    · rw [if_pos hv, if_pos hv, hv, h.many _ he.1 he.2, h.many _ ha.1 ha.2, hi_app, hi_succ _ hne]
      split <;> omega
    · rw [if_neg hv, if_neg hv, h.many v v0 v1]

theorem wt_step {g : Gr} {B : Int → List Nat} {f : Int → List Nat} {at_ e : Int} {rest : List Int} (hn : rest.Nodup) (hm : (g.ends e).2.1 ∈ rest) (φ : Nat → Nat) :
    sm (wt B (fstep g at_ f e) φ) rest = sm (wt B f φ) rest + sm (fun a => sm (fun b => φ (a + 1 + b)) (B (g.ends e).2.1)) (f at_) := by
  refine sm_upd _ _ (g.ends e).2.1 _ ?_ (fun x hx => ?_) rest hn hm
  · unfold wt fstep
    rw [if_pos rfl, sm_app, sm_map]
  · unfold wt fstep
    rw [if_neg hx]

theorem node_step {g : Gr} {B : Int → List Nat} {at_ : Int} {rest : List Int} (hn : rest.Nodup) (hat : at_ ∉ rest) (har : 0 ≤ at_ ∧ at_ < g.n) : ∀ (l : List Int) (f : Int → List Nat) (n : List Int) (s : List Int × List Int), DRel g f n s → f at_ ≠ [] →
    (∀ e ∈ l, (g.ends e).2.1 ∈ rest ∧ (0 ≤ (g.ends e).2.1 ∧ (g.ends e).2.1 < g.n)) →
    DRel g (l.foldl (fstep g at_) f) (l.foldl (cntStep g at_) n) (l.foldl (hopStep g at_) s) ∧
    (∀ φ, sm (wt B (l.foldl (fstep g at_) f) φ) rest = sm (wt B f φ) rest + sm (fun e => sm (fun a => sm (fun b => φ (a + 1 + b)) (B (g.ends e).2.1)) (f at_)) l) ∧
    (∀ v, f v ≠ [] → l.foldl (fstep g at_) f v ≠ []) ∧ (∀ e ∈ l, l.foldl (fstep g at_) f (g.ends e).2.1 ≠ [])
  | [], f, n, s, hd, hne, hl => ⟨hd, fun φ => by simp [sm], fun v h => h, fun e he => by cases he⟩
  | e :: r, f, n, s, hd, hne, hl => by
    obtain ⟨h1, h2⟩ := hl e (by simp)
    have hself : fstep g at_ f e at_ = f at_ := by
      unfold fstep
      rw [if_neg (fun h => hat (by rw [h]; exact h1))]
    have hd' := drel_step hd har h2 hne
    obtain ⟨k1, k2, k3, k4⟩ := node_step (B := B) hn hat har r (fstep g at_ f e) (cntStep g at_ n e) (hopStep g at_ s e) hd' (by rw [hself]; exact hne) (fun x hx => hl x (by simp [hx]))
    have hkeep : ∀ v, f v ≠ [] → fstep g at_ f e v ≠ [] := fun v hv => by
      unfold fstep
      split
      · intro h; exact hv (List.append_eq_nil_iff.1 h).1
      · exact hv
    have hnew : fstep g at_ f e (g.ends e).2.1 ≠ [] := by
      unfold fstep
      rw [if_pos rfl]
      intro h
      exact hne (List.map_eq_nil_iff.1 (List.append_eq_nil_iff.1 h).2)
    simp only [List.foldl_cons]
    refine ⟨k1, fun φ => ?_, fun v hv => k3 v (hkeep v hv), fun x hx => ?_⟩
    · rw [k2 φ, wt_step hn h1 φ, hself]
      simp only [sm]
      omega
    · rcases List.mem_cons.1 hx with hx | hx
      · rw [hx]; exact k3 _ hnew
      · exact k4 x hx

/-- All nodes in their order. -/
theorem dag_run {g : Gr} (hg : g.Ok) {down : List Bool} {to : Int} {d : List Int} (hd : IsDist g down to d) (goal : List Nat) : ∀ (rest : List Int) (f : Int → List Nat) (n : List Int) (s : List Int × List Int), rest.Nodup →
    rest.Pairwise (fun x y => at0 d y ≤ at0 d x) → (∀ x ∈ rest, (0 ≤ x ∧ x < g.n) ∧ 0 ≤ at0 d x) → (∀ x ∈ rest, ∀ e ∈ nextOf g down d x, (g.ends e).2.1 ∈ rest) →
    (∀ v ∈ rest, f v ≠ [] ∨ ∃ x ∈ rest, ∃ e ∈ nextOf g down d x, (g.ends e).2.1 = v) → DRel g f n s → (∀ φ, sm (wt (bks g down d) f φ) rest = sm φ goal) → to ∈ rest →
    at0 (cntAll g (nextOf g down d) rest n) to = cap goal.length ∧ at0 (hopAll g (nextOf g down d) rest s).1 to = (lo g.n.toNat goal : Nat) ∧ at0 (hopAll g (nextOf g down d) rest s).2 to = (hi goal : Nat) := by
  intro rest
  induction rest with
  | nil => intro f n s _ _ _ _ _ _ _ h; cases h
  | cons at_ rest ih =>
    intro f n s hnd hpw hr hcl hsrc hrel hsum hto
    obtain ⟨n1, n2⟩ := List.nodup_cons.1 hnd
    obtain ⟨p1, p2⟩ := List.pairwise_cons.1 hpw
    obtain ⟨har, ha0⟩ := hr at_ (by simp)
    -- nothing leads to the first
    have hfirst : f at_ ≠ [] := by
      rcases hsrc at_ (by simp) with h | ⟨x, hx, e, he, h⟩
      · exact h
      · obtain ⟨_, _, _, _, e6, e7, _⟩ := nextOf_mem hg he
        rw [h] at e6
        rcases List.mem_cons.1 hx with hx | hx
        · subst hx; omega
        · have := p1 x hx; omega
    have hends : ∀ e ∈ nextOf g down d at_, (g.ends e).2.1 ∈ rest ∧ (0 ≤ (g.ends e).2.1 ∧ (g.ends e).2.1 < g.n) := fun e he => by
      obtain ⟨_, _, e4, _, e6, e7, _⟩ := nextOf_mem hg he
      refine ⟨?_, e4⟩
      rcases List.mem_cons.1 (hcl at_ (by simp) e he) with h | h
      · rw [h] at e6; omega
      · exact h
    obtain ⟨k1, k2, k3, k4⟩ := node_step (B := bks g down d) n2 n1 har (nextOf g down d at_) f n s hrel hfirst hends
    by_cases hat : at_ = to
    · subst hat
      have h0 : at0 d at_ = 0 := hd.src
      have hnx : nextOf g down d at_ = [] := by unfold nextOf; rw [if_neg (fun h => by omega)]
      have hrest : rest = [] := by
        cases rest with
        | nil => rfl
        | cons y r =>
          exfalso
          have hy := p1 y (by simp)
          obtain ⟨hyr, hy0⟩ := hr y (by simp)
          rcases next_some hg hd hyr hy0 with ⟨h1, h2⟩ | ⟨e, he⟩
          · subst h1; exact n1 (by simp)
          · obtain ⟨_, _, _, e5, e6, e7, _⟩ := nextOf_mem hg he
            omega
      subst hrest
      have hq : Eqv (f at_) goal := fun φ => by
        rw [← hsum φ]
        simp only [sm, wt, bks_zero (show at0 d at_ ≤ 0 by omega), Nat.add_zero]
      have e1 : cntAll g (nextOf g down d) [at_] n = n := by simp [cntAll, hnx]
      have e2 : hopAll g (nextOf g down d) [at_] s = s := by simp [hopAll, hnx]
      rw [e1, e2, hrel.c _ har.1 har.2, hrel.few _ har.1 har.2, hrel.many _ har.1 har.2, lo_eqv hq, hi_eqv hq, hq.len]
      exact ⟨rfl, rfl, rfl⟩
    · have hpos : 0 < at0 d at_ := by
        rcases next_some hg hd har ha0 with ⟨h1, h2⟩ | ⟨e, he⟩
        · exact absurd h1 hat
        · obtain ⟨_, _, _, e5, e6, e7, _⟩ := nextOf_mem hg he
          omega
      have hto' : to ∈ rest := by
        rcases List.mem_cons.1 hto with h | h
        · exact absurd h.symm hat
        · exact h
      have := ih ((nextOf g down d at_).foldl (fstep g at_) f) ((nextOf g down d at_).foldl (cntStep g at_) n) ((nextOf g down d at_).foldl (hopStep g at_) s) n2 p2 (fun x hx => hr x (by simp [hx])) (fun x hx e he => ?_) (fun v hv => ?_) k1 (fun φ => ?_) hto'
      · exact this
      · obtain ⟨_, _, _, _, e6, e7, _⟩ := nextOf_mem hg he
        have := p1 x hx
        rcases List.mem_cons.1 (hcl x (by simp [hx]) e he) with h | h
        · rw [h] at e6; omega
        · exact h
      · rcases hsrc v (by simp [hv]) with h | ⟨x, hx, e, he, h⟩
        · exact .inl (k3 v h)
        · rcases List.mem_cons.1 hx with hx | hx
          · subst hx
            refine .inl ?_
            rw [← h]; exact k4 e he
          · exact .inr ⟨x, hx, e, he, h⟩
      · rw [k2 φ, ← hsum φ]
        simp only [sm]
        have hw : wt (bks g down d) f φ at_ = sm (fun e => sm (fun a => sm (fun b => φ (a + 1 + b)) (bks g down d (g.ends e).2.1)) (f at_)) (nextOf g down d at_) := by
          unfold wt
          rw [bks_step hg hpos, sm_swap (fun e a => sm (fun b => φ (a + 1 + b)) (bks g down d (g.ends e).2.1)) (f at_) (nextOf g down d at_)]
          refine sm_congr fun a _ => ?_
          rw [sm_flat]
          refine sm_congr fun e _ => ?_
          rw [sm_map]
          refine sm_congr fun b _ => ?_
          congr 1
          omega
        rw [hw]; omega
end Go.Proofs

set_option linter.unusedSimpArgs false
set_option linter.unusedVariables false
namespace Go.Proofs
open Go.Ab

section
variable {g : Gr} {down : List Bool} {from_ to : Int} {d : List Int}
theorem rch_mem {nx : Int → List Int} {N : List Int} (h : VFin g nx from_ N) {x : Int} (hx : Rch g nx from_ x) : x ∈ N := by
  induction hx with
  | refl => exact h.src
  | step _ he ih => exact h.closed _ ih _ he
theorem rch_pos (hg : g.Ok) (h0 : 0 ≤ at0 d from_) {x : Int} (hx : Rch g (nextOf g down d) from_ x) : 0 ≤ at0 d x := by
  induction hx with
  | refl => exact h0
  | step _ he ih => exact (nextOf_mem hg he).2.2.2.1
theorem to_mem (hg : g.Ok) (hd : IsDist g down to d) {N : List Int} (h : VFin g (nextOf g down d) from_ N) (h0 : 0 ≤ at0 d from_) : ∀ (k : Nat) (x : Int), (at0 d x).toNat ≤ k → x ∈ N → to ∈ N := by
  intro k
  induction k with
  | zero =>
    intro x hk hx
    rcases next_some hg hd (h.rng x hx) (rch_pos hg h0 (h.reach x hx)) with ⟨h1, _⟩ | ⟨e, he⟩
    · rw [← h1]; exact hx
    · obtain ⟨_, _, _, e5, e6, e7, _⟩ := nextOf_mem hg he
      omega
  | succ k ih =>
    intro x hk hx
    rcases next_some hg hd (h.rng x hx) (rch_pos hg h0 (h.reach x hx)) with ⟨h1, _⟩ | ⟨e, he⟩
    · rw [← h1]; exact hx
    · obtain ⟨_, _, _, e5, e6, e7, _⟩ := nextOf_mem hg he
      exact ih _ (by omega) (h.closed x hx e he)
end

theorem dag_eq (g : Gr) (down : List Bool) (from_ to : Int) : countOf g down from_ to = (waysOf g down from_ to).1 ∧ hopsOf g down from_ to = (waysOf g down from_ to).2 := by
  unfold countOf hopsOf waysOf
  have bnil := refFrom_nil (g := g) (down := down) (node := to)
  have bdist : g.check.2 = 0 → (0 ≤ to ∧ to < g.n) → IsDist g down to (refFrom g down to) := fun h1 h2 => refFrom_dist (g.check_ok.1 h1) h2
  generalize refFrom g down to = d at *
  by_cases hc : d ≠ [] ∧ (0 ≤ from_ ∧ from_ < g.n) ∧ 0 ≤ at0 d from_
  case neg => rw [if_neg hc, if_neg hc, if_neg hc]; exact ⟨rfl, rfl⟩
  rw [if_pos hc, if_pos hc, if_pos hc]
  obtain ⟨hb, hn, hge⟩ := hc
  have gb : g.check.2 = 0 ∧ 0 ≤ to ∧ to < g.n := Decidable.byContradiction fun h => hb (bnil.2 h)
  have hg := g.check_ok.1 gb.1
  have hd := bdist gb.1 gb.2
  have hfin := nodesOf_fin (nx := nextOf g down d) hn (fun x e he => (nextOf_mem hg he).2.2.1)
  generalize nodesOf g (nextOf g down d) from_ = N at *
  have hk : g.n.toNat - 1 + 1 = g.n.toNat := by omega
  have hperm := sortNd_perm (far := d) (k := g.n.toNat - 1) (nodes := N) (fun x hx => by have := hfin.rng x hx; omega)
  have hsort := sortNd_sorted (far := d) (k := g.n.toNat - 1) (nodes := N)
  generalize sortNd d (g.n.toNat - 1) N = S at *
  have hto : to ∈ S := hperm.mem_iff.2 (to_mem hg hd hfin hge _ from_ (Nat.le_refl _) hfin.src)
  obtain ⟨c1, c2, c3⟩ := cnt_bks hg hd _ from_ (Nat.le_refl _) hn hge
  have hfn : from_.toNat < g.n.toNat := by omega
  have hrel : DRel g (fun v => if v = from_ then [0] else []) ((List.replicate g.n.toNat 0).set from_.toNat 1) (hop0 g from_) := by
    refine ⟨by simp, by simp [hop0], by simp [hop0], fun v v0 v1 => ?_, fun v v0 v1 => ?_, fun v v0 v1 => ?_⟩
    · rw [at0_set' (by simp) hn v0]
      by_cases e : v = from_
      · rw [if_pos e, if_pos e]; rfl
      · have : v.toNat < g.n.toNat := by omega
        rw [if_neg e, if_neg e]
        simp [this]; rfl
    · unfold hop0
      rw [at0_set' (by simp) hn v0]
      by_cases e : v = from_
      · rw [if_pos e, if_pos e]; simp [lo]
      · have : v.toNat < g.n.toNat := by omega
        rw [if_neg e, if_neg e]
        simp [this, lo]; omega
    · unfold hop0
      have : v.toNat < g.n.toNat := by omega
      by_cases e : v = from_
      · rw [if_pos e]; simp [this, hi]
      · rw [if_neg e]; simp [this, hi]
  obtain ⟨r1, r2, r3⟩ := dag_run hg hd (bks g down d from_) S _ _ _ (hperm.nodup_iff.2 hfin.nodup) hsort (fun x hx => ⟨hfin.rng x (hperm.mem_iff.1 hx), rch_pos hg hge (hfin.reach x (hperm.mem_iff.1 hx))⟩)
    (fun x hx e he => hperm.mem_iff.2 (hfin.closed x (hperm.mem_iff.1 hx) e he))
    (fun v hv => by
      have hr := hfin.reach v (hperm.mem_iff.1 hv)
      cases hr with
      | refl => left; simp
      | step hx he => exact .inr ⟨_, hperm.mem_iff.2 (rch_mem hfin hx), _, he, rfl⟩) hrel
    (fun φ => by
      have h1 := sm_upd (fun _ : Int => 0) (wt (bks g down d) (fun v => if v = from_ then [0] else []) φ) from_ (sm φ (bks g down d from_)) (by simp [wt, sm]) (fun x hx => by simp [wt, sm, hx]) S (hperm.nodup_iff.2 hfin.nodup) (hperm.mem_iff.2 hfin.src)
      rw [h1, sm_zero, Nat.zero_add]) hto
  exact ⟨by rw [r1, ← c1], by rw [r2, r3, ← c2, ← c3]⟩
end Go.Proofs

set_option linter.unusedSimpArgs false
set_option linter.unusedVariables false
namespace Go.Proofs
open Go.Ab

section
variable {g : Gr} {down : List Bool} {from_ to : Int} {a b : List Int}
theorem closed_rev (hg : g.Ok) (hb : IsDist g down to b) {k : Int} (hk : Use g down k) (h : 0 ≤ at0 b (g.ends k).2.1) : 0 ≤ at0 b (g.ends k).1 ∧ at0 b (g.ends k).1 ≤ at0 b (g.ends k).2.1 + g.metric k := by
  obtain ⟨k0, k1, k2⟩ := hk
  obtain ⟨r1, r2, r3, r4, r5, r6⟩ := rev_ends g k0 k1
  have := hb.closed (rev k) ⟨r1, r2, by rw [rev_up (g := g) k0 k1]; exact k2⟩ (by rw [r3]; exact h)
  rw [r3, r4, r5] at this
  exact this
theorem dist_tri (hg : g.Ok) (ha : IsDist g down from_ a) (hb : IsDist g down to b) : ∀ (N : Nat) (x : Int), (at0 b x).toNat ≤ N → 0 ≤ x ∧ x < g.n → 0 ≤ at0 a x → 0 ≤ at0 b x → 0 ≤ at0 a to ∧ at0 a to ≤ at0 a x + at0 b x := by
  intro N
  induction N with
  | zero =>
    intro x hN hx h1 h2
    rcases hb.reach x hx.1 hx.2 h2 with ⟨rfl, h3⟩ | ⟨k, hk, e1, e2, e3⟩
    · omega
    · obtain ⟨m1, _⟩ := g.metric_of hg hk.1 hk.2.1
      omega
  | succ N ih =>
    intro x hN hx h1 h2
    rcases hb.reach x hx.1 hx.2 h2 with ⟨rfl, h3⟩ | ⟨k, hk, e1, e2, e3⟩
    · omega
    · obtain ⟨m1, _⟩ := g.metric_of hg hk.1 hk.2.1
      obtain ⟨v1, v2, _⟩ := g.ends_of hg hk.1 hk.2.1
      have h4 := closed_rev hg ha hk (by rw [e1]; exact h1)
      rw [e1] at h4
      have := ih (g.ends k).1 (by omega) v1 h4.1 e2
      omega
theorem dist_sym (hg : g.Ok) (ha : IsDist g down from_ a) (hb : IsDist g down to b) (hf : 0 ≤ from_ ∧ from_ < g.n) (ht : 0 ≤ to ∧ to < g.n) : (0 ≤ at0 a to ↔ 0 ≤ at0 b from_) ∧ (0 ≤ at0 a to → at0 a to = at0 b from_) := by
  have h1 : 0 ≤ at0 b from_ → 0 ≤ at0 a to ∧ at0 a to ≤ at0 b from_ := fun h => by
    have := dist_tri hg ha hb _ from_ (Nat.le_refl _) hf (by rw [ha.src]; exact Int.le_refl _) h
    rw [ha.src] at this
    omega
  have h2 : 0 ≤ at0 a to → 0 ≤ at0 b from_ ∧ at0 b from_ ≤ at0 a to := fun h => by
    have := dist_tri hg hb ha _ to (Nat.le_refl _) ht (by rw [hb.src]; exact Int.le_refl _) h
    rw [hb.src] at this
    omega
  refine ⟨⟨fun h => (h2 h).1, fun h => (h1 h).1⟩, fun h => ?_⟩
  have := h2 h
  have := h1 this.1
  omega
/-- Where a node lies on a shortest way. -/
theorem rch_sum (hg : g.Ok) (ha : IsDist g down from_ a) (hb : IsDist g down to b) (hf : 0 ≤ from_ ∧ from_ < g.n) (h0 : 0 ≤ at0 b from_) (hs : at0 a to = at0 b from_) {x : Int} (hx : Rch g (nextOf g down b) from_ x) :
    (0 ≤ x ∧ x < g.n) ∧ 0 ≤ at0 a x ∧ 0 ≤ at0 b x ∧ at0 a x + at0 b x = at0 a to := by
  induction hx with
  | refl => rw [ha.src]; exact ⟨hf, Int.le_refl _, h0, by omega⟩
  | @step x e _ he ih =>
    obtain ⟨⟨k0, k1⟩, e3, e4, e5, e6, e7, e8⟩ := nextOf_mem hg he
    have hc := ha.closed e ⟨k0, k1, e8⟩ (by rw [e3]; exact ih.2.1)
    rw [e3] at hc
    have ht := dist_tri hg ha hb _ (g.ends e).2.1 (Nat.le_refl _) e4 hc.1 e5
    exact ⟨e4, hc.1, e5, by omega⟩
theorem sum_rch (hg : g.Ok) (ha : IsDist g down from_ a) (hb : IsDist g down to b) : ∀ (N : Nat) (x : Int), (at0 a x).toNat ≤ N → (0 ≤ x ∧ x < g.n) → 0 ≤ at0 a x → 0 ≤ at0 b x → at0 a x + at0 b x = at0 a to → Rch g (nextOf g down b) from_ x := by
  intro N
  induction N with
  | zero =>
    intro x hN hx h1 h2 h3
    rcases ha.reach x hx.1 hx.2 h1 with ⟨rfl, _⟩ | ⟨k, hk, e1, e2, e3⟩
    · exact .refl
    · obtain ⟨m1, _⟩ := g.metric_of hg hk.1 hk.2.1
      omega
  | succ N ih =>
    intro x hN hx h1 h2 h3
    rcases ha.reach x hx.1 hx.2 h1 with ⟨rfl, _⟩ | ⟨k, hk, e1, e2, e3⟩
    · exact .refl
    · obtain ⟨m1, _⟩ := g.metric_of hg hk.1 hk.2.1
      obtain ⟨v1, v2, _⟩ := g.ends_of hg hk.1 hk.2.1
      have h4 := closed_rev hg hb hk (by rw [e1]; exact h2)
      rw [e1] at h4
      have h5 := dist_tri hg ha hb _ (g.ends k).1 (Nat.le_refl _) v1 e2 h4.1
      have hu := ih (g.ends k).1 (by omega) v1 e2 h4.1 (by omega)
      rw [← e1]
      exact .step hu (mem_nextOf hg hb.len v1 (by omega) hk.1 hk.2.1 rfl hk.2.2 (by rw [e1]; exact h2) (by rw [e1]; omega))
end

theorem sorted_eq : ∀ {l m : List Int}, l.Pairwise (· ≤ ·) → m.Pairwise (· ≤ ·) → l.Perm m → l = m
  | [], m, _, _, h => (List.nil_perm.1 h).symm
  | x :: r, [], _, _, h => absurd h.symm (fun h => by have := List.nil_perm.1 h; cases this)
  | x :: r, y :: q, hl, hm, h => by
    obtain ⟨l1, l2⟩ := List.pairwise_cons.1 hl
    obtain ⟨m1, m2⟩ := List.pairwise_cons.1 hm
    have e : x = y := by
      have h1 : x ∈ y :: q := h.mem_iff.1 (by simp)
      have h2 : y ∈ x :: r := h.mem_iff.2 (by simp)
      have h3 : y ≤ x := by
        rcases List.mem_cons.1 h1 with h1 | h1
        · omega
        · exact m1 x h1
      have h4 : x ≤ y := by
        rcases List.mem_cons.1 h2 with h2 | h2
        · omega
        · exact l1 y h2
      omega
    subst e
    rw [sorted_eq l2 m2 (List.perm_cons x |>.1 h)]
theorem sortI_sorted (l : List Int) : (sortI l).Pairwise (· ≤ ·) := by
  have := List.pairwise_mergeSort (le := fun x y : Int => decide (x ≤ y)) (fun a b c h1 h2 => by simp only [decide_eq_true_eq] at *; omega) (fun a b => by simp only [Bool.or_eq_true, decide_eq_true_eq]; omega) l
  exact this.imp fun h => by simpa using h
theorem sortI_perm (l : List Int) : (sortI l).Perm l := List.mergeSort_perm l _
theorem upto_sorted (n : Nat) : (upto n).Pairwise (· < ·) := by
  unfold upto
  rw [List.pairwise_map]
  exact List.pairwise_lt_range.imp fun h => by omega
theorem upto_mem {n : Nat} {k : Int} : k ∈ upto n ↔ 0 ≤ k ∧ k < n := by
  unfold upto
  rw [List.mem_map]
  constructor
  · rintro ⟨i, hi, rfl⟩
    have := List.mem_range.1 hi
    omega
  · rintro ⟨h1, h2⟩
    exact ⟨k.toNat, List.mem_range.2 (by omega), by omega⟩
theorem out_nodup (g : Gr) (x : Int) : (g.out x).Nodup := by
  unfold Gr.out Gr.outN
  refine List.Pairwise.filterMap _ (R := fun a b : Nat => a ≠ b) (fun a a' hne b hb b' hb' => ?_) List.nodup_range
  split at hb
  · split at hb'
    · simp only [Option.some.injEq] at hb hb'; omega
    · simp at hb'
  · simp at hb
theorem next_nodup (g : Gr) (down : List Bool) (d : List Int) (x : Int) : (nextOf g down d x).Nodup := by
  unfold nextOf
  split
  · exact (out_nodup g x).filter _
  · exact List.nodup_nil
theorem flatN_mem {nx : Int → List Int} {N : List Int} {n : Nat} {e : Int} : e ∈ flatN nx N n ↔ ∃ i : Nat, i < n ∧ (i : Int) ∈ N ∧ e ∈ nx i := by
  unfold flatN
  rw [List.mem_flatMap]
  constructor
  · rintro ⟨i, hi, he⟩
    split at he
    · rename_i h; exact ⟨i, List.mem_range.1 hi, h, he⟩
    · cases he
  · rintro ⟨i, hi, h, he⟩
    exact ⟨i, List.mem_range.2 hi, by rw [if_pos h]; exact he⟩
theorem flatN_nodup {g : Gr} (hg : g.Ok) {down : List Bool} {d : List Int} {N : List Int} : ∀ n, (flatN (nextOf g down d) N n).Nodup
  | 0 => by simp [flatN]
  | n + 1 => by
    rw [flatN_succ, List.nodup_append]
    refine ⟨flatN_nodup hg n, ?_, fun a ha b hb e => ?_⟩
    · split
      · exact next_nodup _ _ _ _
      · exact List.nodup_nil
    · subst e
      obtain ⟨i, hi, _, he⟩ := flatN_mem.1 ha
      split at hb
      · have h1 := (nextOf_mem hg he).2.1
        have h2 := (nextOf_mem hg hb).2.1
        rw [h1] at h2
        omega
      · cases hb

theorem duses_eq (g : Gr) (down : List Bool) (from_ to : Int) : dusesOf g down from_ to = usesOf g down from_ to := by
  unfold dusesOf usesOf
  have bnil := refFrom_nil (g := g) (down := down) (node := to)
  have anil := refFrom_nil (g := g) (down := down) (node := from_)
  have bdist : g.check.2 = 0 → (0 ≤ to ∧ to < g.n) → IsDist g down to (refFrom g down to) := fun h1 h2 => refFrom_dist (g.check_ok.1 h1) h2
  have adist : g.check.2 = 0 → (0 ≤ from_ ∧ from_ < g.n) → IsDist g down from_ (refFrom g down from_) := fun h1 h2 => refFrom_dist (g.check_ok.1 h1) h2
  generalize refFrom g down to = b at *
  generalize refFrom g down from_ = a at *
  by_cases hc : g.check.2 = 0
  case neg =>
    rw [if_neg (fun h => h.1 (bnil.2 fun h2 => hc h2.1)), if_pos (.inl (anil.2 fun h2 => hc h2.1))]
  by_cases hf : 0 ≤ from_ ∧ from_ < g.n
  case neg =>
    rw [if_neg (fun h => hf h.2.1), if_pos (.inl (anil.2 fun h2 => hf h2.2))]
  by_cases ht : 0 ≤ to ∧ to < g.n
  case neg =>
    rw [if_neg (fun h => h.1 (bnil.2 fun h2 => ht h2.2)), if_pos (.inr (.inl (bnil.2 fun h2 => ht h2.2)))]
  have hg := g.check_ok.1 hc
  have ha := adist hc hf
  have hb := bdist hc ht
  obtain ⟨s1, s2⟩ := dist_sym hg ha hb hf ht
  have hbn : b ≠ [] := fun h => (bnil.1 h) ⟨hc, ht⟩
  have han : a ≠ [] := fun h => (anil.1 h) ⟨hc, hf⟩
  by_cases h0 : 0 ≤ at0 a to
  case neg =>
    rw [if_neg (fun h => h0 (s1.2 h.2.2)), if_pos (.inr (.inr (by omega)))]
  have hb0 := s1.1 h0
  have hs := s2 h0
  rw [if_pos ⟨hbn, hf, hb0⟩, if_neg (fun h => h.elim han fun h => h.elim hbn fun h => by omega)]
  have hfin := nodesOf_fin (nx := nextOf g down b) hf (fun x e he => (nextOf_mem hg he).2.2.1)
  generalize nodesOf g (nextOf g down b) from_ = N at *
  refine sorted_eq (sortI_sorted _) (((upto_sorted _).filter _).imp fun h => by omega) ((sortI_perm _).trans ?_)
  refine (List.perm_ext_iff_of_nodup (flatN_nodup hg _) (((upto_sorted _).imp fun h => by omega).filter _)).2 fun e => ?_
  rw [flatN_mem, List.mem_filter, upto_mem]
  unfold usesCond
  rw [Bool.and_eq_true, Bool.and_eq_true, Bool.and_eq_true, decide_eq_true_eq, decide_eq_true_eq, decide_eq_true_eq]
  constructor
  · rintro ⟨i, hi, hm, he⟩
    obtain ⟨⟨k0, k1⟩, e3, e4, e5, e6, e7, e8⟩ := nextOf_mem hg he
    obtain ⟨_, x1, x2, x3⟩ := rch_sum hg ha hb hf hb0 hs (hfin.reach _ hm)
    rw [e3]
    refine ⟨⟨k0, by omega⟩, ?_, x1, e5, by omega⟩
    rw [← up_down down e k0]; exact e8
  · rintro ⟨⟨k0, k1⟩, hd, x1, x2, x3⟩
    have k1' : e < 2 * (g.ls.length : Int) := by omega
    have hu : isUp down e = true := by rw [up_down down e k0]; exact hd
    obtain ⟨v1, v2, _⟩ := g.ends_of hg k0 k1'
    obtain ⟨m1, _⟩ := g.metric_of hg k0 k1'
    have h4 := closed_rev hg hb ⟨k0, k1', hu⟩ x2
    have h5 := dist_tri hg ha hb _ (g.ends e).1 (Nat.le_refl _) v1 x1 h4.1
    have e1 : (((g.ends e).1.toNat : Nat) : Int) = (g.ends e).1 := by omega
    refine ⟨(g.ends e).1.toNat, by omega, ?_, ?_⟩
    · rw [e1]; exact rch_mem hfin (sum_rch hg ha hb _ _ (Nat.le_refl _) v1 x1 h4.1 (by omega))
    · rw [e1]; exact mem_nextOf hg hb.len v1 (by omega) k0 k1' rfl hu x2 (by omega)
end Go.Proofs
