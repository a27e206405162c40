/- DagTells holds: the number of shortest ways, their fewest and most edges, and the edges that some have are the document's, for every graph, links down and two nodes. No condition. -/
import Derived.Test.YtgkgllhjakbcnaaRows
import Derived.Test.YtgkgllhjakbcnaaP6
import Derived.Test.YtgkgllhjakbcnaaP2
import Derived.ProofKit
import Derived.OpenShut
set_option linter.unusedVariables false
set_option linter.unusedSimpArgs false
set_option linter.unnecessarySimpa false
set_option linter.unusedSectionVars false
namespace Go.Proofs.Ytgkgllhjakbcnaa
open Go.ChangeShapes Go.WideShapes Go.ChangeAt Go.RowKit Go.Ab
set_option linter.unusedVariables false

theorem ownKn : ownKnob Try.prog.godebug = none := by kernel_rfl
theorem laidOut : laidOutB Try.prog = true := by kernel_rfl
theorem row24 : rowOf Try.prog 5 24 = some [.int .i64, .slice [.int .i64, .int .i64, .int .i64, .int .i64]] := by kernel_rfl
theorem row25 : rowOf Try.prog 5 25 = some [.slice [.bool]] := by kernel_rfl

theorem hasInt {x : AVal} (h : HasC (.int .i64) x) : ∃ n, x = .sc (.int .i64 n) ∧ (Lit.int .i64 n).wf = true := by cases h with | int k n hw => exact ⟨n, rfl, hw⟩
theorem hasBools {x : AVal} (h : HasC (.slice [.bool]) x) : ∃ l : List Bool, x = .lst (bools l) := by
  cases h with
  | lst row xs hl h1 h2 =>
    have key : ∀ ys : List (List AVal), (∀ y ∈ ys, y ∈ xs) → ∃ l : List Bool, ys = bools l := fun ys => by
      induction ys with
      | nil => intro _; exact ⟨[], rfl⟩
      | cons y r ih =>
        intro hm
        obtain ⟨l, hl'⟩ := ih fun z hz => hm z (by simp [hz])
        have hy := hm y (by simp)
        have hlen := h1 y hy
        match y, hlen with
        | [c], _ =>
          have hc := h2 [c] hy 0 .bool c rfl rfl
          cases hc with
          | bool b => exact ⟨b :: l, by rw [hl']; rfl⟩
    obtain ⟨l, hl'⟩ := key xs fun _ h => h
    exact ⟨l, by rw [hl']⟩
theorem hasLinks {x : AVal} (h : HasC (.slice [.int .i64, .int .i64, .int .i64, .int .i64]) x) : ∃ l : List Lk, x = .lst (l.map Lk.row) := by
  cases h with
  | lst row xs hl h1 h2 =>
    have key : ∀ ys : List (List AVal), (∀ y ∈ ys, y ∈ xs) → ∃ l : List Lk, ys = l.map Lk.row := fun ys => by
      induction ys with
      | nil => intro _; exact ⟨[], rfl⟩
      | cons y r ih =>
        intro hm
        obtain ⟨l, hl'⟩ := ih fun z hz => hm z (by simp [hz])
        have hy := hm y (by simp)
        have hlen := h1 y hy
        match y, hlen with
        | [a, b, c, d], _ =>
          obtain ⟨a', rfl, _⟩ := hasInt (h2 _ hy 0 _ a rfl rfl)
          obtain ⟨b', rfl, _⟩ := hasInt (h2 _ hy 1 _ b rfl rfl)
          obtain ⟨c', rfl, _⟩ := hasInt (h2 _ hy 2 _ c rfl rfl)
          obtain ⟨d', rfl, _⟩ := hasInt (h2 _ hy 3 _ d rfl rfl)
          exact ⟨⟨a', b', c', d'⟩ :: l, by rw [hl']; rfl⟩
    obtain ⟨l, hl'⟩ := key xs fun _ h => h
    exact ⟨l, by rw [hl']⟩
theorem hasGr {xs : List AVal} (hl : xs.length = 2) (h : ∀ (i : Nat) c x, ([.int .i64, .slice [.int .i64, .int .i64, .int .i64, .int .i64]] : List CT)[i]? = some c → xs[i]? = some x → HasC c x) : ∃ g : Gr, AVal.agg xs = g.val := by
  match xs, hl with
  | [a, b], _ =>
    obtain ⟨n, rfl, _⟩ := hasInt (h 0 _ a rfl rfl)
    obtain ⟨l, rfl⟩ := hasLinks (h 1 _ b rfl rfl)
    exact ⟨⟨n, l⟩, rfl⟩

/-- A law that answers true, called. -/
theorem law_calls {f : FuncId} {xs : List AVal} (h : PGood Try.prog f xs (.b true)) {W : World} {vs : Array Value} (hr : RelL Asg.none (fun b => b < W.heap.size) W xs vs) :
    Calls Try.prog f vs W fun e w' => e = .returned (.bool true) ∧ Below W.heap.size W w' := by
  refine (h.2 (fun b => b < W.heap.size) W vs (fun _ h => h) hr).mono ?_
  rintro e w' ⟨v, Im', rfl, _, _, _, h4, h5⟩
  rw [rel_sc_inv h4]
  exact ⟨rfl, h5.toBelow⟩
theorem relL4 {Im : Nat → Prop} {W : World} {a b c d : AVal} {v0 v1 v2 v3 : Value} (h0 : Rel Asg.none Im W a v0) (h1 : Rel Asg.none Im W b v1) (h2 : Rel Asg.none Im W c v2) (h3 : Rel Asg.none Im W d v3) : RelL Asg.none Im W [a, b, c, d] #[v0, v1, v2, v3] := ⟨rfl, fun i x v hx hv => by
  match i with
  | 0 => simp at hx hv; subst hx hv; exact h0
  | 1 => simp at hx hv; subst hx hv; exact h1
  | 2 => simp at hx hv; subst hx hv; exact h2
  | 3 => simp at hx hv; subst hx hv; exact h3
  | i + 4 => simp at hx⟩

set_option maxHeartbeats 800000 in
set_option maxRecDepth 100000 in
theorem tells_lifted (os : Os) (started : os.Started) (H : Type) (enc : TypeId × Value → H) :
    ReturnsInHanded {} Try.checked os 3 .any (Rows.dagTellsSpec.pre6 enc Try.prog Try.f3 Rows.dagTellsRow.domain false) (Rows.dagTellsSpec.post enc Try.prog Try.f3 false true false false) := by
  refine returnsInHanded_of_change (C := Try.checked) ownKn started (by kernel_rfl) Try.func3
    (ChangeSpec.witness6 (enc := enc) (C := Try.checked) false ⟨#[], #[.agg #[.int .i64 0, .slice none 0 0], .slice none 0 0, .int .i64 0, .int .i64 0], []⟩ 8 (by kernel_rfl) (by kernel_rfl) (by kernel_rfl) (by kernel_rfl)) ?_
  intro W base args ds gs before hval0 hW hcnd _
  have hval : ∀ (j : Nat) t v, Try.f3.params[j]? = some t → args[j]? = some v → Value.okWide Try.prog W .any base t v := hval0
  have hW' := hW
  obtain ⟨p, q, hA0, hV, rfl, hfz, hnd⟩ := hW
  have hA : DataW.TrodAll enc Try.prog W 0 (fun _ => true) true Try.f3.params.toList args.toList ds p := hA0
  rw [Try.params3] at hA hval
  obtain ⟨v0, vs0, d0, ds0, p0, q0, hargs, rfl, rfl, h0, r0⟩ := trodAll_cons hA
  obtain ⟨v1, vs1, d1, ds1, p1, q1, rfl, rfl, rfl, h1, r1⟩ := trodAll_cons r0
  obtain ⟨v2, vs2, d2, ds2, p2, q2, rfl, rfl, rfl, h2, r2⟩ := trodAll_cons r1
  obtain ⟨v3, vs3, d3, ds3, p3, q3, rfl, rfl, rfl, h3, r3⟩ := trodAll_cons r2
  obtain ⟨rfl, rfl, rfl⟩ := trodAll_nil r3
  obtain rfl : args = #[v0, v1, v2, v3] := by cases args; simp_all
  obtain ⟨rfl, rfl⟩ := trodVars_none hV
  obtain ⟨c0, rfl, _⟩ := okWide_struct Try.underlying24 (hval 0 24 v0 rfl rfl)
  obtain ⟨a1, l1, k1, rfl⟩ := okWide_slice Try.underlying25 (hval 1 25 v1 rfl rfl)
  obtain ⟨n2, rfl⟩ := okWide_int Try.underlying3 (hval 2 3 v2 rfl rfl)
  obtain ⟨n3, rfl⟩ := okWide_int Try.underlying3 (hval 3 3 v3 rfl rfl)
  have hlt : ∀ y ∈ p0 ++ (p1 ++ (p2 ++ (p3 ++ []))), y.block < W.heap.size := fun y hy => by simpa using hW'.lt y (by simpa using hy)
  obtain ⟨xs, hxl, hxc, hx⟩ := arg_agg (Im := fun b => b < W.heap.size) (fun _ h => h) 5 row24 h0 rfl
  obtain ⟨g, hg⟩ := hasGr hxl hxc
  obtain ⟨y, hyc, hy⟩ := arg_one (Im := fun b => b < W.heap.size) (fun _ h => h) 5 row25 h1 rfl
  obtain ⟨down, rfl⟩ := hasBools hyc
  rw [hg] at hx
  have stay : ∀ {t : TypeId} {v : Value} {d : DataW H} {p' : List MemPlace} {W' : World}, Try.prog.readableRec t = true → t < Try.prog.types.size → DataW.Trod enc Try.prog W 0 (fun _ => true) true t v d p' → Below W.heap.size W W' → (∀ x ∈ p', x.block < W.heap.size) → DataW.Trod enc Try.prog W' 0 (fun b => decide (b < W.heap.size)) true t v d p' := fun hr ht h hb hl => Below.trod laidOut hr ht h hb hl
  refine (law_calls (dagTells_ok g down n2 n3) (relL4 hx hy (.sc _ rfl) (.sc _ rfl))).mono fun e W' ⟨he, hb⟩ => ?_
  subst he
  refine ⟨_, rfl, _, _, _, [], p0 ++ (p1 ++ (p2 ++ (p3 ++ []))), [], hW', trodAll_mk1 (shut_bool Try.underlying4 _), ?_, rfl, hb.frame _, fun h => by cases h⟩
  exact trodAll_cons_mk (stay (by kernel_rfl) (of_decide_eq_true (by kernel_rfl)) h0 hb (fun x hx => hlt x (by simp [hx]))) (trodAll_cons_mk (stay (by kernel_rfl) (of_decide_eq_true (by kernel_rfl)) h1 hb (fun x hx => hlt x (by simp [hx])))
    (trodAll_cons_mk (stay (by kernel_rfl) (of_decide_eq_true (by kernel_rfl)) h2 hb (fun x hx => hlt x (by simp [hx]))) (trodAll_cons_mk (stay (by kernel_rfl) (of_decide_eq_true (by kernel_rfl)) h3 hb (fun x hx => hlt x (by simp [hx]))) trodAll_mk0)))

theorem tells_holds : Rows.DagTellsSaid :=
  OpenClaim.holds_of_wide 3 Try.f3 rfl rfl rfl rfl rfl rfl rfl ⟨rfl, rfl, rfl, rfl, rfl⟩ rfl rfl rfl rfl rfl (by kernel_rfl) Try.func3 (by kernel_rfl)
    (of_decide_eq_true (by kernel_rfl)) (by unfold Func.isWrapper; first | (rw [if_pos (by decide +kernel)]; kernel_rfl) | (rw [if_neg (by decide +kernel)]; exact ⟨rfl, rfl⟩))
    (fun os started H enc _ => tells_lifted os started H enc)
end Go.Proofs.Ytgkgllhjakbcnaa
