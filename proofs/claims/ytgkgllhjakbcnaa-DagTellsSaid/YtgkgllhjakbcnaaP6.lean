/- A part of the proof: lemmas alone, no statement. -/
import Derived.Test.YtgkgllhjakbcnaaP5
set_option linter.unusedVariables false
set_option linter.unusedSimpArgs false
set_option linter.unnecessarySimpa false
set_option linter.unusedSectionVars false
set_option linter.unusedSimpArgs false
set_option linter.unusedVariables false
namespace Go.Proofs
open Go.Ab

theorem out_agg2 {σ : Store} {m : Nat} {a b c d : AVal} (h1 : Out m σ a c) (h2 : Out m σ b d) : Out (m + 1) σ (.agg [a, b]) (.agg [c, d]) := by
  obtain ⟨y, h1, h1'⟩ := h1
  obtain ⟨z, h2, h2'⟩ := h2
  refine ⟨.agg [y, z], by simp [snap, mapO, h1, h2], sub_agg rfl fun i x y hx hy => ?_⟩
  match i with
  | 0 => simp at hx hy; subst hx hy; exact h1'
  | 1 => simp at hx hy; subst hx hy; exact h2'
  | i + 2 => simp at hx
theorem good_out_any {P : Program} {σ : Store} {f : FuncId} {args xs : List AVal} {r : AVal} {Q : AVal → Store → Prop} (m : Nat) (h : OutL m σ args xs) (hp : PGood P f xs r) (hQ : ∀ τ, (∃ p, τ = σ.freeze p) → Q r τ) : Ab.Good P f args σ Q := by
  obtain ⟨ys, h1, h2, h3⟩ := outL_spec h
  refine good_of_pgood m h1 (hp.sub h2 h3) (hQ _ ?_)
  unfold after
  split
  · exact ⟨fun _ => false, Store.ext fun i => by
      rw [Store.get_freeze]
      cases hg : σ.get i with
      | none => rfl
      | some o => cases o <;> simp⟩
  · exact ⟨_, rfl⟩
theorem links_sc (l : List Lk) : ∀ y ∈ l.map Lk.row, ∀ c ∈ y, ∃ v, c = .sc v := by
  intro y hy c hc
  obtain ⟨k, _, rfl⟩ := List.mem_map.1 hy
  simp only [Lk.row, List.mem_cons, List.not_mem_nil, or_false] at hc
  rcases hc with rfl | rfl | rfl | rfl <;> exact ⟨_, rfl⟩
theorem gr_out {σ : Store} {n : Int} {ls : List Lk} {id ver off len : Nat} {fz : Bool} {xs : List (List AVal)} (h : Ab.rowAt σ id ver = some (fz, 4, xs)) (hl : off + len ≤ xs.length) (hy : (xs.drop off).take len = ls.map Lk.row) : Out 3 σ (.agg [.i n, .sl id ver off len 4]) (Gr.val ⟨n, ls⟩) :=
  out_agg2 out_sc (out_sl (m := 0) h hl hy (links_sc ls))

def exG : Gr := ⟨2, [⟨0, 1, 7, 0⟩, ⟨0, 1, 7, 0⟩]⟩
theorem ex1 : waysOf exG [] 0 1 = (2, 1, 1, true) := by decide +kernel
theorem ex2 : waysOf ⟨1, []⟩ [] 0 0 = (1, 0, 0, true) := by decide +kernel
theorem ex3 : usesOf exG [] 0 1 = [0, 2] := by decide +kernel
theorem ex1c : countOf exG [] 0 1 = 2 := by rw [(dag_eq _ _ _ _).1, ex1]
theorem ex2c : countOf ⟨1, []⟩ [] 0 0 = 1 := by rw [(dag_eq _ _ _ _).1, ex2]
theorem ex1h : hopsOf exG [] 0 1 = (1, 1, true) := by rw [(dag_eq _ _ _ _).2, ex1]
theorem ex3u : dusesOf exG [] 0 1 = [0, 2] := by rw [duses_eq, ex3]

theorem alive_ok : PGood Try.prog 7 [] (.b true) := by
  refine pgood_of_out 2 (good_of_wp isF7 (Nat.le_refl _) ?_)
  unfold ac7
  simp only [go_sem, Option.isSome_some, ↓reduceIte, if_true, if_false, Nat.reduceEqDiff, Nat.reduceAdd, Nat.reduceMul, Nat.reduceSub, Nat.reduceLT, Nat.reduceLeDiff, Nat.reduceDiv, Nat.reduceMod, Nat.reduceBEq, Int.reduceNeg, Int.reduceEq, Int.reduceNe, Int.reduceLT, Int.reduceLE, Int.reduceToNat, Int.reduceAdd, Int.reduceSub, Int.reduceMul, reduceCtorEq, decide_true, decide_false, Nat.zero_add, Nat.add_zero, Nat.zero_mul, Nat.sub_zero, Int.toNat_natCast, true_and, and_true, false_and, and_false, ne_eq, not_false_eq_true, not_true_eq_false, beq_self_eq_true, Bool.false_eq_true, Nat.le_refl, Nat.zero_le]
  intro lid hlid
  simp only [go_sem, Option.isSome_some, ↓reduceIte, if_true, if_false, Nat.reduceEqDiff, Nat.reduceAdd, Nat.reduceMul, Nat.reduceSub, Nat.reduceLT, Nat.reduceLeDiff, Nat.reduceDiv, Nat.reduceMod, Nat.reduceBEq, Int.reduceNeg, Int.reduceEq, Int.reduceNe, Int.reduceLT, Int.reduceLE, Int.reduceToNat, Int.reduceAdd, Int.reduceSub, Int.reduceMul, reduceCtorEq, decide_true, decide_false, Nat.zero_add, Nat.add_zero, Nat.zero_mul, Nat.sub_zero, Int.toNat_natCast, true_and, and_true, false_and, and_false, ne_eq, not_false_eq_true, not_true_eq_false, beq_self_eq_true, Bool.false_eq_true, Nat.le_refl, Nat.zero_le]
  intro gid hgid
  have a1 : lid ≠ gid := fun e => by rw [← e] at hgid; simp at hgid
  have hrow : ∀ o, Ab.rowAt ((Store.empty.set lid (.row 0 false 4 [[.sc (.int .i64 0), .sc (.int .i64 1), .sc (.int .i64 7), .sc (.int .i64 0)], [.sc (.int .i64 0), .sc (.int .i64 1), .sc (.int .i64 7), .sc (.int .i64 0)]])).set gid o) lid 0 = some (false, 4, [[.sc (.int .i64 0), .sc (.int .i64 1), .sc (.int .i64 7), .sc (.int .i64 0)], [.sc (.int .i64 0), .sc (.int .i64 1), .sc (.int .i64 7), .sc (.int .i64 0)]]) := fun o => by rw [rowAt_ne a1, rowAt_self]
  simp only [go_sem, Option.isSome_some, ↓reduceIte, if_true, if_false, Nat.reduceEqDiff, Nat.reduceAdd, Nat.reduceMul, Nat.reduceSub, Nat.reduceLT, Nat.reduceLeDiff, Nat.reduceDiv, Nat.reduceMod, Nat.reduceBEq, Int.reduceNeg, Int.reduceEq, Int.reduceNe, Int.reduceLT, Int.reduceLE, Int.reduceToNat, Int.reduceAdd, Int.reduceSub, Int.reduceMul, reduceCtorEq, decide_true, decide_false, Nat.zero_add, Nat.add_zero, Nat.zero_mul, Nat.sub_zero, Int.toNat_natCast, true_and, and_true, false_and, and_false, ne_eq, not_false_eq_true, not_true_eq_false, beq_self_eq_true, Bool.false_eq_true, Nat.le_refl, Nat.zero_le]
  refine good_out 3 (outL4 (gr_out (n := 2) (ls := exG.ls) (hrow _) (by decide) rfl) out_nils out_sc out_sc) (hops_ok exG [] 0 1) rfl ?_
  rw [ex1h]
  simp only [go_sem, Option.isSome_some, ↓reduceIte, if_true, if_false, Nat.reduceEqDiff, Nat.reduceAdd, Nat.reduceMul, Nat.reduceSub, Nat.reduceLT, Nat.reduceLeDiff, Nat.reduceDiv, Nat.reduceMod, Nat.reduceBEq, Int.reduceNeg, Int.reduceEq, Int.reduceNe, Int.reduceLT, Int.reduceLE, Int.reduceToNat, Int.reduceAdd, Int.reduceSub, Int.reduceMul, reduceCtorEq, decide_true, decide_false, Nat.zero_add, Nat.add_zero, Nat.zero_mul, Nat.sub_zero, Int.toNat_natCast, true_and, and_true, false_and, and_false, ne_eq, not_false_eq_true, not_true_eq_false, beq_self_eq_true, Bool.false_eq_true, Nat.le_refl, Nat.zero_le]
  refine good_out 3 (outL4 (out_agg2 (c := .i 1) (d := .lst []) out_sc out_nils) out_nils out_sc out_sc) (count_ok ⟨1, []⟩ [] 0 0) rfl ?_
  rw [ex2c]
  simp only [go_sem, Option.isSome_some, ↓reduceIte, if_true, if_false, Nat.reduceEqDiff, Nat.reduceAdd, Nat.reduceMul, Nat.reduceSub, Nat.reduceLT, Nat.reduceLeDiff, Nat.reduceDiv, Nat.reduceMod, Nat.reduceBEq, Int.reduceNeg, Int.reduceEq, Int.reduceNe, Int.reduceLT, Int.reduceLE, Int.reduceToNat, Int.reduceAdd, Int.reduceSub, Int.reduceMul, reduceCtorEq, decide_true, decide_false, Nat.zero_add, Nat.add_zero, Nat.zero_mul, Nat.sub_zero, Int.toNat_natCast, true_and, and_true, false_and, and_false, ne_eq, not_false_eq_true, not_true_eq_false, beq_self_eq_true, Bool.false_eq_true, Nat.le_refl, Nat.zero_le]
  refine good_out 3 (outL4 (gr_out (n := 2) (ls := exG.ls) (hrow _) (by decide) rfl) out_nils out_sc out_sc) (count_ok exG [] 0 1) rfl ?_
  rw [ex1c]
  simp only [go_sem, Option.isSome_some, ↓reduceIte, if_true, if_false, Nat.reduceEqDiff, Nat.reduceAdd, Nat.reduceMul, Nat.reduceSub, Nat.reduceLT, Nat.reduceLeDiff, Nat.reduceDiv, Nat.reduceMod, Nat.reduceBEq, Int.reduceNeg, Int.reduceEq, Int.reduceNe, Int.reduceLT, Int.reduceLE, Int.reduceToNat, Int.reduceAdd, Int.reduceSub, Int.reduceMul, reduceCtorEq, decide_true, decide_false, Nat.zero_add, Nat.add_zero, Nat.zero_mul, Nat.sub_zero, Int.toNat_natCast, true_and, and_true, false_and, and_false, ne_eq, not_false_eq_true, not_true_eq_false, beq_self_eq_true, Bool.false_eq_true, Nat.le_refl, Nat.zero_le]
  refine good_out_any 3 (outL4 (gr_out (n := 2) (ls := exG.ls) (hrow _) (by decide) rfl) out_nils out_sc out_sc) (duses_ok exG [] 0 1) fun τ _ => ?_
  rw [ex3u]
  simp only [go_sem, Option.isSome_some, ↓reduceIte, if_true, if_false, Nat.reduceEqDiff, Nat.reduceAdd, Nat.reduceMul, Nat.reduceSub, Nat.reduceLT, Nat.reduceLeDiff, Nat.reduceDiv, Nat.reduceMod, Nat.reduceBEq, Int.reduceNeg, Int.reduceEq, Int.reduceNe, Int.reduceLT, Int.reduceLE, Int.reduceToNat, Int.reduceAdd, Int.reduceSub, Int.reduceMul, reduceCtorEq, decide_true, decide_false, Nat.zero_add, Nat.add_zero, Nat.zero_mul, Nat.sub_zero, Int.toNat_natCast, true_and, and_true, false_and, and_false, ne_eq, not_false_eq_true, not_true_eq_false, beq_self_eq_true, Bool.false_eq_true, Nat.le_refl, Nat.zero_le]
  exact out_sc

theorem dagTells_ok (g : Gr) (down : List Bool) (from_ to : Int) : PGood Try.prog 3 [g.val, .lst (bools down), .i from_, .i to] (.b true) := by
  refine pgood_of_out 2 (good_of_wp isF3 (Nat.le_refl _) ?_)
  unfold ac3
  simp only [go_sem, Option.isSome_some, ↓reduceIte, if_true, if_false, Nat.reduceEqDiff, Nat.reduceAdd, Nat.reduceMul, Nat.reduceSub, Nat.reduceLT, Nat.reduceLeDiff, Nat.reduceDiv, Nat.reduceMod, Nat.reduceBEq, Int.reduceNeg, Int.reduceEq, Int.reduceNe, Int.reduceLT, Int.reduceLE, Int.reduceToNat, Int.reduceAdd, Int.reduceSub, Int.reduceMul, reduceCtorEq, decide_true, decide_false, Nat.zero_add, Nat.add_zero, Nat.zero_mul, Nat.sub_zero, Int.toNat_natCast, true_and, and_true, false_and, and_false, ne_eq, not_false_eq_true, not_true_eq_false, beq_self_eq_true, Bool.false_eq_true, Nat.le_refl, Nat.zero_le, Gr.val]
  intro gid hgid
  simp only [go_sem, Option.isSome_some, ↓reduceIte, if_true, if_false, Nat.reduceEqDiff, Nat.reduceAdd, Nat.reduceMul, Nat.reduceSub, Nat.reduceLT, Nat.reduceLeDiff, Nat.reduceDiv, Nat.reduceMod, Nat.reduceBEq, Int.reduceNeg, Int.reduceEq, Int.reduceNe, Int.reduceLT, Int.reduceLE, Int.reduceToNat, Int.reduceAdd, Int.reduceSub, Int.reduceMul, reduceCtorEq, decide_true, decide_false, Nat.zero_add, Nat.add_zero, Nat.zero_mul, Nat.sub_zero, Int.toNat_natCast, true_and, and_true, false_and, and_false, ne_eq, not_false_eq_true, not_true_eq_false, beq_self_eq_true, Bool.false_eq_true, Nat.le_refl, Nat.zero_le]
  refine good_imm alive_ok rfl ?_
  simp only [go_sem, Option.isSome_some, ↓reduceIte, if_true, if_false, Nat.reduceEqDiff, Nat.reduceAdd, Nat.reduceMul, Nat.reduceSub, Nat.reduceLT, Nat.reduceLeDiff, Nat.reduceDiv, Nat.reduceMod, Nat.reduceBEq, Int.reduceNeg, Int.reduceEq, Int.reduceNe, Int.reduceLT, Int.reduceLE, Int.reduceToNat, Int.reduceAdd, Int.reduceSub, Int.reduceMul, reduceCtorEq, decide_true, decide_false, Nat.zero_add, Nat.add_zero, Nat.zero_mul, Nat.sub_zero, Int.toNat_natCast, true_and, and_true, false_and, and_false, ne_eq, not_false_eq_true, not_true_eq_false, beq_self_eq_true, Bool.false_eq_true, Nat.le_refl, Nat.zero_le]
  by_cases h1 : (60 : Int) < g.ls.length
  · simp only [go_sem, Option.isSome_some, ↓reduceIte, if_true, if_false, Nat.reduceEqDiff, Nat.reduceAdd, Nat.reduceMul, Nat.reduceSub, Nat.reduceLT, Nat.reduceLeDiff, Nat.reduceDiv, Nat.reduceMod, Nat.reduceBEq, Int.reduceNeg, Int.reduceEq, Int.reduceNe, Int.reduceLT, Int.reduceLE, Int.reduceToNat, Int.reduceAdd, Int.reduceSub, Int.reduceMul, reduceCtorEq, decide_true, decide_false, Nat.zero_add, Nat.add_zero, Nat.zero_mul, Nat.sub_zero, Int.toNat_natCast, true_and, and_true, false_and, and_false, ne_eq, not_false_eq_true, not_true_eq_false, beq_self_eq_true, Bool.false_eq_true, Nat.le_refl, Nat.zero_le, h1]
    exact out_sc
  simp only [go_sem, Option.isSome_some, ↓reduceIte, if_true, if_false, Nat.reduceEqDiff, Nat.reduceAdd, Nat.reduceMul, Nat.reduceSub, Nat.reduceLT, Nat.reduceLeDiff, Nat.reduceDiv, Nat.reduceMod, Nat.reduceBEq, Int.reduceNeg, Int.reduceEq, Int.reduceNe, Int.reduceLT, Int.reduceLE, Int.reduceToNat, Int.reduceAdd, Int.reduceSub, Int.reduceMul, reduceCtorEq, decide_true, decide_false, Nat.zero_add, Nat.add_zero, Nat.zero_mul, Nat.sub_zero, Int.toNat_natCast, true_and, and_true, false_and, and_false, ne_eq, not_false_eq_true, not_true_eq_false, beq_self_eq_true, Bool.false_eq_true, Nat.le_refl, Nat.zero_le, h1]
  by_cases h2 : (200 : Int) < down.length
  · simp only [go_sem, Option.isSome_some, ↓reduceIte, if_true, if_false, Nat.reduceEqDiff, Nat.reduceAdd, Nat.reduceMul, Nat.reduceSub, Nat.reduceLT, Nat.reduceLeDiff, Nat.reduceDiv, Nat.reduceMod, Nat.reduceBEq, Int.reduceNeg, Int.reduceEq, Int.reduceNe, Int.reduceLT, Int.reduceLE, Int.reduceToNat, Int.reduceAdd, Int.reduceSub, Int.reduceMul, reduceCtorEq, decide_true, decide_false, Nat.zero_add, Nat.add_zero, Nat.zero_mul, Nat.sub_zero, Int.toNat_natCast, true_and, and_true, false_and, and_false, ne_eq, not_false_eq_true, not_true_eq_false, beq_self_eq_true, Bool.false_eq_true, Nat.le_refl, Nat.zero_le, h2]
    exact out_sc
  simp only [go_sem, Option.isSome_some, ↓reduceIte, if_true, if_false, Nat.reduceEqDiff, Nat.reduceAdd, Nat.reduceMul, Nat.reduceSub, Nat.reduceLT, Nat.reduceLeDiff, Nat.reduceDiv, Nat.reduceMod, Nat.reduceBEq, Int.reduceNeg, Int.reduceEq, Int.reduceNe, Int.reduceLT, Int.reduceLE, Int.reduceToNat, Int.reduceAdd, Int.reduceSub, Int.reduceMul, reduceCtorEq, decide_true, decide_false, Nat.zero_add, Nat.add_zero, Nat.zero_mul, Nat.sub_zero, Int.toNat_natCast, true_and, and_true, false_and, and_false, ne_eq, not_false_eq_true, not_true_eq_false, beq_self_eq_true, Bool.false_eq_true, Nat.le_refl, Nat.zero_le, h2]
  refine good_imm (ref_ways_ok g down from_ to) rfl ?_
  simp only [go_sem, Option.isSome_some, ↓reduceIte, if_true, if_false, Nat.reduceEqDiff, Nat.reduceAdd, Nat.reduceMul, Nat.reduceSub, Nat.reduceLT, Nat.reduceLeDiff, Nat.reduceDiv, Nat.reduceMod, Nat.reduceBEq, Int.reduceNeg, Int.reduceEq, Int.reduceNe, Int.reduceLT, Int.reduceLE, Int.reduceToNat, Int.reduceAdd, Int.reduceSub, Int.reduceMul, reduceCtorEq, decide_true, decide_false, Nat.zero_add, Nat.add_zero, Nat.zero_mul, Nat.sub_zero, Int.toNat_natCast, true_and, and_true, false_and, and_false, ne_eq, not_false_eq_true, not_true_eq_false, beq_self_eq_true, Bool.false_eq_true, Nat.le_refl, Nat.zero_le]
  refine good_imm (hops_ok g down from_ to) rfl ?_
  simp only [go_sem, Option.isSome_some, ↓reduceIte, if_true, if_false, Nat.reduceEqDiff, Nat.reduceAdd, Nat.reduceMul, Nat.reduceSub, Nat.reduceLT, Nat.reduceLeDiff, Nat.reduceDiv, Nat.reduceMod, Nat.reduceBEq, Int.reduceNeg, Int.reduceEq, Int.reduceNe, Int.reduceLT, Int.reduceLE, Int.reduceToNat, Int.reduceAdd, Int.reduceSub, Int.reduceMul, reduceCtorEq, decide_true, decide_false, Nat.zero_add, Nat.add_zero, Nat.zero_mul, Nat.sub_zero, Int.toNat_natCast, true_and, and_true, false_and, and_false, ne_eq, not_false_eq_true, not_true_eq_false, beq_self_eq_true, Bool.false_eq_true, Nat.le_refl, Nat.zero_le]
  unfold op3_51
  simp only [go_sem, Option.isSome_some, ↓reduceIte, if_true, if_false, Nat.reduceEqDiff, Nat.reduceAdd, Nat.reduceMul, Nat.reduceSub, Nat.reduceLT, Nat.reduceLeDiff, Nat.reduceDiv, Nat.reduceMod, Nat.reduceBEq, Int.reduceNeg, Int.reduceEq, Int.reduceNe, Int.reduceLT, Int.reduceLE, Int.reduceToNat, Int.reduceAdd, Int.reduceSub, Int.reduceMul, reduceCtorEq, decide_true, decide_false, Nat.zero_add, Nat.add_zero, Nat.zero_mul, Nat.sub_zero, Int.toNat_natCast, true_and, and_true, false_and, and_false, ne_eq, not_false_eq_true, not_true_eq_false, beq_self_eq_true, Bool.false_eq_true, Nat.le_refl, Nat.zero_le]
  refine goodD_imm (count_ok g down from_ to) rfl ?_
  obtain ⟨e1, e2⟩ := dag_eq g down from_ to
  rw [e1, e2]
  cases hb : (waysOf g down from_ to).2.2.2
  all_goals
    simp only [go_sem, Option.isSome_some, ↓reduceIte, if_true, if_false, Nat.reduceEqDiff, Nat.reduceAdd, Nat.reduceMul, Nat.reduceSub, Nat.reduceLT, Nat.reduceLeDiff, Nat.reduceDiv, Nat.reduceMod, Nat.reduceBEq, Int.reduceNeg, Int.reduceEq, Int.reduceNe, Int.reduceLT, Int.reduceLE, Int.reduceToNat, Int.reduceAdd, Int.reduceSub, Int.reduceMul, reduceCtorEq, decide_true, decide_false, Nat.zero_add, Nat.add_zero, Nat.zero_mul, Nat.sub_zero, Int.toNat_natCast, true_and, and_true, false_and, and_false, ne_eq, not_false_eq_true, not_true_eq_false, beq_self_eq_true, Bool.false_eq_true, Nat.le_refl, Nat.zero_le]
    refine goodD_imm (duses_ok g down from_ to) rfl ?_
    simp only [go_sem, Option.isSome_some, ↓reduceIte, if_true, if_false, Nat.reduceEqDiff, Nat.reduceAdd, Nat.reduceMul, Nat.reduceSub, Nat.reduceLT, Nat.reduceLeDiff, Nat.reduceDiv, Nat.reduceMod, Nat.reduceBEq, Int.reduceNeg, Int.reduceEq, Int.reduceNe, Int.reduceLT, Int.reduceLE, Int.reduceToNat, Int.reduceAdd, Int.reduceSub, Int.reduceMul, reduceCtorEq, decide_true, decide_false, Nat.zero_add, Nat.add_zero, Nat.zero_mul, Nat.sub_zero, Int.toNat_natCast, true_and, and_true, false_and, and_false, ne_eq, not_false_eq_true, not_true_eq_false, beq_self_eq_true, Bool.false_eq_true, Nat.le_refl, Nat.zero_le]
    refine goodD_imm (ref_uses_ok g down from_ to) rfl ?_
    have hl : (dusesOf g down from_ to).length < 1000000000 := by
      rw [duses_eq]
      unfold usesOf
      split
      · simp
      · have := List.length_filter_le (usesCond g down (refFrom g down from_) (refFrom g down to) to) (upto (2 * g.ls.length))
        rw [upto_len] at this
        omega
    simp only [go_sem, Option.isSome_some, ↓reduceIte, if_true, if_false, Nat.reduceEqDiff, Nat.reduceAdd, Nat.reduceMul, Nat.reduceSub, Nat.reduceLT, Nat.reduceLeDiff, Nat.reduceDiv, Nat.reduceMod, Nat.reduceBEq, Int.reduceNeg, Int.reduceEq, Int.reduceNe, Int.reduceLT, Int.reduceLE, Int.reduceToNat, Int.reduceAdd, Int.reduceSub, Int.reduceMul, reduceCtorEq, decide_true, decide_false, Nat.zero_add, Nat.add_zero, Nat.zero_mul, Nat.sub_zero, Int.toNat_natCast, true_and, and_true, false_and, and_false, ne_eq, not_false_eq_true, not_true_eq_false, beq_self_eq_true, Bool.false_eq_true, Nat.le_refl, Nat.zero_le]
    refine goodD_imm (same_ok _ _ hl) rfl ?_
    rw [duses_eq]
    simp only [go_sem, Option.isSome_some, ↓reduceIte, if_true, if_false, Nat.reduceEqDiff, Nat.reduceAdd, Nat.reduceMul, Nat.reduceSub, Nat.reduceLT, Nat.reduceLeDiff, Nat.reduceDiv, Nat.reduceMod, Nat.reduceBEq, Int.reduceNeg, Int.reduceEq, Int.reduceNe, Int.reduceLT, Int.reduceLE, Int.reduceToNat, Int.reduceAdd, Int.reduceSub, Int.reduceMul, reduceCtorEq, decide_true, decide_false, Nat.zero_add, Nat.add_zero, Nat.zero_mul, Nat.sub_zero, Int.toNat_natCast, true_and, and_true, false_and, and_false, ne_eq, not_false_eq_true, not_true_eq_false, beq_self_eq_true, Bool.false_eq_true, Nat.le_refl, Nat.zero_le]
    exact out_sc
end Go.Proofs
