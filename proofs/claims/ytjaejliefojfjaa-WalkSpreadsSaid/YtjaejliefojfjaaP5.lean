/- A part of the proof: lemmas alone, no statement. -/
import Derived.Test.YtjaejliefojfjaaP4
import Derived.Test.YtjaejliefojfjaaP2
import Derived.Test.YtjaejliefojfjaaRows
import Derived.ProofKit
import Derived.OpenShut
set_option linter.unusedVariables false
set_option linter.unusedSimpArgs false
set_option linter.unnecessarySimpa false
set_option linter.unusedSectionVars false
set_option linter.unusedSimpArgs false
set_option linter.unusedVariables false
namespace Go.Proofs
open Go.Ab

/-! ### The reference's distances -/
def bfCond (g : Gr) (down : List Bool) (d : List Int) (k : Nat) : Prop :=
  0 ≤ d.getD (g.ends k).1.toNat 0 ∧ isDown down ((k : Int) / 2) = false ∧ (d.getD (g.ends k).2.1.toNat 0 < 0 ∨ d.getD (g.ends k).1.toNat 0 + g.metric k < d.getD (g.ends k).2.1.toNat 0)
instance (g : Gr) (down : List Bool) (d : List Int) (k : Nat) : Decidable (bfCond g down d k) := by unfold bfCond; infer_instance
def bfStep (g : Gr) (down : List Bool) (s : List Int × Bool) (k : Nat) : List Int × Bool :=
  if bfCond g down s.1 k then (s.1.set (g.ends k).2.1.toNat (s.1.getD (g.ends k).1.toNat 0 + g.metric k), true) else s
def bfSweep (g : Gr) (down : List Bool) (d : List Int) : List Int × Bool := (List.range (2 * g.ls.length)).foldl (bfStep g down) (d, false)
def bf (g : Gr) (down : List Bool) : Nat → List Int → List Int
  | 0, d => d
  | f + 1, d => if (bfSweep g down d).2 then bf g down f (bfSweep g down d).1 else (bfSweep g down d).1
def big : Int := 687865856
/-- How far a list of distances may still fall. -/
def pot (d : List Int) : Int := (d.map fun x => if x < 0 then big else x).sum
def refFrom (g : Gr) (down : List Bool) (node : Int) : List Int :=
  if g.check.2 = 0 ∧ 0 ≤ node ∧ node < g.n then bf g down (pot ((List.replicate g.n.toNat (-1)).set node.toNat 0)).toNat.succ ((List.replicate g.n.toNat (-1)).set node.toNat 0) else []

/-- Every distance is small. -/
def Small (d : List Int) : Prop := ∀ x ∈ d, x = -1 ∨ (0 ≤ x ∧ x ≤ ((d.length - (d.filter (· < 0)).length : Nat) : Int) * 16777216 - 16777216)

theorem pot_set {d : List Int} {i : Nat} {x : Int} (hi : i < d.length) : pot (d.set i x) = pot d - (if d[i] < 0 then big else d[i]) + (if x < 0 then big else x) := by
  unfold pot
  induction d generalizing i with
  | nil => simp at hi
  | cons y r ih =>
    cases i with
    | zero => simp; omega
    | succ i =>
      have := ih (i := i) (by simpa using hi)
      simp only [List.set_cons_succ, List.map_cons, List.sum_cons, List.getElem_cons_succ, this]
      omega
theorem pot_nonneg (d : List Int) : 0 ≤ pot d := by
  unfold pot
  induction d with
  | nil => simp
  | cons y r ih =>
    simp only [List.map_cons, List.sum_cons]
    have : 0 ≤ (if y < 0 then big else y) := by
      split
      · decide
      · omega
    omega
theorem neg_set {d : List Int} {i : Nat} {x : Int} (hi : i < d.length) (hx : 0 ≤ x) : ((d.set i x).filter (· < 0)).length + (if d[i] < 0 then 1 else 0) = (d.filter (· < 0)).length := by
  induction d generalizing i with
  | nil => simp at hi
  | cons y r ih =>
    cases i with
    | zero =>
      have hx' : ¬ x < 0 := by omega
      by_cases hy : y < 0 <;> simp [hx', hy]
    | succ i =>
      have := ih (i := i) (by simpa using hi)
      by_cases hy : y < 0 <;> simp [hy] <;> omega
theorem neg_le (d : List Int) : (d.filter (· < 0)).length ≤ d.length := List.length_filter_le _ _

theorem Small.step {d : List Int} (h : Small d) {i : Nat} {a m : Int} (hi : i < d.length) (ha : a ∈ d) (h0 : 0 ≤ a) (hm : 1 ≤ m) (hm2 : m ≤ 16777216) (hlt : d[i] < 0 ∨ a + m < d[i]) : Small (d.set i (a + m)) := by
  have e := neg_set (x := a + m) hi (by omega)
  have l1 := neg_le d
  have hsm := h a ha
  intro x hx
  rw [List.length_set]
  rcases List.mem_or_eq_of_mem_set hx with h1 | h1
  · rcases h x h1 with h2 | ⟨h2, h3⟩
    · exact .inl h2
    · refine .inr ⟨h2, ?_⟩
      split at e <;> omega
  · subst h1
    refine .inr ⟨by omega, ?_⟩
    rcases hlt with h2 | h2
    · rw [if_pos h2] at e
      omega
    · have h3 := h d[i] (List.getElem_mem hi)
      split at e <;> omega

theorem ref_from_ok (g : Gr) (down : List Bool) (node : Int) : PGood Try.prog 41 [g.val, .lst (bools down), .i node] (.lst (ints (refFrom g down node))) := by
  refine pgood_of_out 2 (good_of_wp isF41 (Nat.le_refl _) ?_)
  unfold ac41
  simp only [go_sem, simprocAttr, Gr.val]
  intro gid hgid
  simp only [go_sem, simprocAttr]
  refine good_imm (rcheck_ok g) rfl ?_
  simp only [go_sem, simprocAttr]
  by_cases hc : g.check.2 = 0
  case neg =>
    simp only [go_sem, simprocAttr, hc]
    have e : refFrom g down node = [] := by unfold refFrom; rw [if_neg (fun h => hc h.1)]
    rw [e]
    exact out_nils
  simp only [go_sem, simprocAttr, hc]
  refine good_imm (node_ok g.n (.lst (g.ls.map Lk.row)) node) rfl ?_
  simp only [go_sem, simprocAttr]
  refine .intro (fun hn => ?_) (fun hn => ?_)
  case refine_2 =>
    simp only [go_sem, simprocAttr]
    have e : refFrom g down node = [] := by unfold refFrom; rw [if_neg (fun h => hn h.2)]
    rw [e]
    exact out_nils
  obtain ⟨k1, k2, k3, k4⟩ := g.check_ok.1 hc
  have hok : g.Ok := ⟨k1, k2, k3, k4⟩
  have n1 : (0 : Int) ≤ g.n := by omega
  have n2 : g.n ≤ 9223372036854775807 := by omega
  have n3 : g.n.toNat * 8 ≤ 281474976710656 := by omega
  simp only [go_sem, simprocAttr, n1, n2, n3]
  intro oid hoid
  have hne1 : gid ≠ oid := fun e => by rw [← e] at hoid; simp at hoid
  have e1 : refFrom g down node = bf g down (pot ((List.replicate g.n.toNat (-1)).set node.toNat 0)).toNat.succ ((List.replicate g.n.toNat (-1)).set node.toNat 0) := by unfold refFrom; rw [if_pos ⟨hc, hn⟩]
  have grow : ∀ o, ((Store.empty.set gid (.row 0 false 2 [[.sc (.int .i64 g.n), .lst (g.ls.map Lk.row)]])).set oid o).get gid = some (.row 0 false 2 [[.sc (.int .i64 g.n), .lst (g.ls.map Lk.row)]]) := fun o => by
    rw [Store.get_set_ne _ _ hne1, Store.get_set_self]
  simp only [go_sem, simprocAttr]
  refine loop_rule (fun m fr σ => ∃ (i : Nat) (out : List Int), i ≤ g.n.toNat ∧ m = g.n.toNat - i ∧ fr = [(1, .lst (bools down)), (2, .i node), (3, .ptr gid 0 0 0), (9, .sl oid 0 0 g.n.toNat 1), (10, .i i)] ∧
    out = List.replicate i (-1) ++ List.replicate (g.n.toNat - i) 0 ∧ σ.get oid = some (.row 0 false 1 (ints out)) ∧ σ.get gid = some (.row 0 false 2 [[.sc (.int .i64 g.n), .lst (g.ls.map Lk.row)]])) g.n.toNat
    ⟨0, List.replicate g.n.toNat 0, by omega, by omega, rfl, by simp, by simp [ints_rep], grow _⟩ ?_
  rintro m fr σ ⟨i, out, h1, rfl, rfl, h2, h3, h4⟩
  have hlen : out.length = g.n.toNat := by rw [h2]; simp; omega
  simp only [go_sem, simprocAttr, rowAt_get h4]
  refine .intro (fun h => ?_) (fun h => ?_)
  · have hi : i < out.length := by omega
    have x1 : (ints out)[i]? = some [.sc (.int .i64 out[i])] := ints_get (List.getElem?_eq_getElem hi)
    have n4 : (0 : Int) ≤ i := by omega
    have n5 : (i : Int) < g.n.toNat := by omega
    have w1 : IntKind.i64.wrap ((i : Int) + 1) = ((i + 1 : Nat) : Int) := by rw [wrap_id (by omega) (by omega)]; rfl
    simp only [go_sem, simprocAttr, n4, n5, rowAt_get h3, x1, w1]
    refine back_of _ ?_ ⟨i + 1, out.set i (-1), by omega, rfl, rfl, ?_, ?_, ?_⟩
    · omega
    · rw [h2, List.set_append_right _ _ (by simp), List.replicate_succ', List.length_replicate, Nat.sub_self]
      obtain ⟨k, hk⟩ : ∃ k, g.n.toNat - i = k + 1 := ⟨g.n.toNat - i - 1, by omega⟩
      rw [hk, show g.n.toNat - (i + 1) = k by omega, List.replicate_succ]
      simp
    · rw [Store.get_set_self, ints_set]
    · rw [Store.get_set_ne _ _ hne1, h4]
  · simp only [go_sem, simprocAttr]
    have e : i = g.n.toNat := by omega
    subst e
    rw [Nat.sub_self, List.replicate_zero, List.append_nil] at h2
    have hi : node.toNat < out.length := by omega
    have x1 : (ints out)[node.toNat]? = some [.sc (.int .i64 out[node.toNat])] := ints_get (List.getElem?_eq_getElem hi)
    have n4 : (0 : Int) ≤ node := by omega
    have n5 : node < (g.n.toNat : Int) := by omega
    simp only [go_sem, simprocAttr, n4, n5, rowAt_get h3, x1]
    have hd0 : out.set node.toNat 0 = (List.replicate g.n.toNat (-1)).set node.toNat 0 := by rw [h2]
    have hrow0 : (ints out).set node.toNat [.sc (.int .i64 0)] = ints (out.set node.toNat 0) := (ints_set _ _ _).symm
    rw [hrow0]
    have hsm0 : Small (out.set node.toNat 0) := by
      intro x hx
      rcases List.mem_or_eq_of_mem_set hx with h5 | h5
      · rw [h2] at h5; exact .inl (List.mem_replicate.1 h5).2
      · subst h5
        refine .inr ⟨Int.le_refl _, ?_⟩
        have e5 := neg_set (x := 0) hi (Int.le_refl _)
        have l5 := neg_le out
        have e6 : out[node.toNat] = -1 := by
          have h7 : ∀ x ∈ out, x = -1 := fun x hx => by rw [h2] at hx; exact (List.mem_replicate.1 hx).2
          exact h7 _ (List.getElem_mem hi)
        rw [e6] at e5
        simp at e5 ⊢
        omega
    refine loop_rule (fun m fr σ => ∃ (f : Nat) (d : List Int) (more : Bool), m = (if more then (pot d).toNat + 1 else 0) ∧ fr = [(1, .lst (bools down)), (3, .ptr gid 0 0 0), (9, .sl oid 0 0 g.n.toNat 1), (11, .b more)] ∧ d.length = g.n.toNat ∧
      σ.get oid = some (.row 0 false 1 (ints d)) ∧ σ.get gid = some (.row 0 false 2 [[.sc (.int .i64 g.n), .lst (g.ls.map Lk.row)]]) ∧ Small d ∧
      (if more then (pot d).toNat < f ∧ bf g down f d = refFrom g down node else d = refFrom g down node)) _
      ⟨(pot (out.set node.toNat 0)).toNat.succ, out.set node.toNat 0, true, rfl, rfl, by simpa using hlen, by simp, by rw [Store.get_set_ne _ _ hne1, h4], hsm0, by rw [if_pos rfl]; exact ⟨Nat.lt_succ_self _, by rw [e1, ← hd0]⟩⟩ ?_
    clear h h2 h3 h4 hlen hi x1 hd0 hrow0 hsm0
    rintro m fr σ2 ⟨f, d, more, rfl, rfl, hlen, o1, g1, hsm, hfin⟩
    cases more with
    | false =>
      simp only [go_sem, simprocAttr]
      simp only [Bool.false_eq_true, if_false] at hfin
      rw [← hfin]
      exact out_sl (rowAt_get o1) (by rw [ints_len]; omega) (by rw [List.drop_zero, ← hlen, ← ints_len, List.take_length]) (ints_sc _)
    | true =>
      simp only [if_true] at hfin
      obtain ⟨hf, hbf⟩ := hfin
      obtain ⟨f', rfl⟩ : ∃ f', f = f' + 1 := ⟨f - 1, by omega⟩
      simp only [go_sem, simprocAttr]
      refine loop_rule (fun m fr σ => ∃ (k : Nat) (s : List Int × Bool), k ≤ 2 * g.ls.length ∧ m = 2 * g.ls.length - k ∧ fr = [(1, .lst (bools down)), (3, .ptr gid 0 0 0), (9, .sl oid 0 0 g.n.toNat 1), (11, .b s.2), (12, .i k)] ∧
        s = (List.range k).foldl (bfStep g down) (d, false) ∧ s.1.length = g.n.toNat ∧ σ.get oid = some (.row 0 false 1 (ints s.1)) ∧ σ.get gid = some (.row 0 false 2 [[.sc (.int .i64 g.n), .lst (g.ls.map Lk.row)]]) ∧ Small s.1 ∧
        pot s.1 ≤ pot d - (if s.2 then 1 else 0)) _ ⟨0, (d, false), by omega, rfl, rfl, rfl, hlen, o1, g1, hsm, by simp⟩ ?_
      rintro m fr σ3 ⟨k, s, hk, rfl, rfl, hs, hlen3, o3, g3, hsm3, hp3⟩
      have w2 : IntKind.i64.wrap (2 * (g.ls.length : Int)) = 2 * g.ls.length := wrap_id (by omega) (by omega)
      simp only [go_sem, simprocAttr, rowAt_get g3, w2]
      refine .intro (fun hkl => ?_) (fun hkl => ?_)
      · have hkl' : k < 2 * g.ls.length := by omega
        simp only [go_sem, simprocAttr, rowAt_get g3]
        refine good_imm (rends_ok g k (by omega)) rfl ?_
        simp only [go_sem, simprocAttr]
        unfold op41_61
        obtain ⟨v1, v2, v3, v4⟩ := g.ends_of hok (e := k) (by omega) (by omega)
        obtain ⟨v5, v6⟩ := g.metric_of hok (e := k) (by omega) (by omega)
        have hstep : (List.range (k + 1)).foldl (bfStep g down) (d, false) = bfStep g down s k := by rw [List.range_succ, List.foldl_append, ← hs]; rfl
        generalize ha : (g.ends k).1 = a at *
        generalize hb : (g.ends k).2.1 = b at *
        have hai : a.toNat < s.1.length := by omega
        have hbi : b.toNat < s.1.length := by omega
        have x1 : (ints s.1)[a.toNat]? = some [.sc (.int .i64 (s.1.getD a.toNat 0))] := ints_get (by simp [hai])
        have x2 : (ints s.1)[b.toNat]? = some [.sc (.int .i64 (s.1.getD b.toNat 0))] := ints_get (by simp [hbi])
        have ha' : s.1.getD a.toNat 0 ∈ s.1 := by
          have : s.1.getD a.toNat 0 = s.1[a.toNat] := by simp [hai]
          rw [this]; exact List.getElem_mem hai
        have ms := hsm3 _ ha'
        have lneg := neg_le s.1
        have hq : IntKind.i64.wrap ((k : Int).tdiv 2) = (k : Int) / 2 := by
          rw [Int.tdiv_eq_ediv_of_nonneg (by omega)]
          exact wrap_id (by omega) (by omega)
        have hlt : ((k : Int) / 2).toNat < g.ls.length := by omega
        have x4 : (g.ls.map Lk.row)[((k : Int) / 2).toNat]? = some [.sc (.int .i64 (g.ls[((k : Int) / 2).toNat]).a), .sc (.int .i64 (g.ls[((k : Int) / 2).toNat]).b), .sc (.int .i64 (g.metric k)), .sc (.int .i64 (g.ls[((k : Int) / 2).toNat]).c)] := by
          simp [hlt, Lk.row, Gr.metric]
        have n6 : (0 : Int) ≤ (k : Int) / 2 := by omega
        have m1 : a < (g.n.toNat : Int) := by omega
        have m2 : b < (g.n.toNat : Int) := by omega
        have w5 : IntKind.i64.wrap (s.1.getD a.toNat 0 + g.metric k) = s.1.getD a.toNat 0 + g.metric k := wrap_id (by omega) (by omega)
        have w4 : IntKind.i64.wrap ((k : Int) + 1) = ((k + 1 : Nat) : Int) := by rw [wrap_id (by omega) (by omega)]; rfl
        simp only [go_sem, simprocAttr, v1.1, m1, v2.1, m2, rowAt_get o3, x1, rowAt_get g3, hq, x4, n6, w5]
        have same : ¬ bfCond g down s.1 k → Back (fun m fr σ => ∃ (k : Nat) (s : List Int × Bool), k ≤ 2 * g.ls.length ∧ m = 2 * g.ls.length - k ∧ fr = [(1, .lst (bools down)), (3, .ptr gid 0 0 0), (9, .sl oid 0 0 g.n.toNat 1), (11, .b s.2), (12, .i k)] ∧
            s = (List.range k).foldl (bfStep g down) (d, false) ∧ s.1.length = g.n.toNat ∧ σ.get oid = some (.row 0 false 1 (ints s.1)) ∧ σ.get gid = some (.row 0 false 2 [[.sc (.int .i64 g.n), .lst (g.ls.map Lk.row)]]) ∧ Small s.1 ∧
            pot s.1 ≤ pot d - (if s.2 then 1 else 0)) (2 * g.ls.length - k) [(1, .lst (bools down)), (3, .ptr gid 0 0 0), (9, .sl oid 0 0 g.n.toNat 1), (11, .b s.2), (12, .i ((k + 1 : Nat) : Int))] σ3 := fun hne => by
          refine back_of (2 * g.ls.length - (k + 1)) (by omega) ⟨k + 1, s, by omega, rfl, rfl, ?_, hlen3, o3, g3, hsm3, hp3⟩
          rw [hstep]; unfold bfStep; rw [if_neg hne]
        by_cases q1 : 0 ≤ s.1.getD a.toNat 0
        · simp only [go_sem, simprocAttr, q1, hq]
          refine good_imm (isdown_ok down ((k : Int) / 2)) rfl ?_
          simp only [go_sem, simprocAttr]
          cases q2 : isDown down ((k : Int) / 2) with
          | true =>
            simp only [go_sem, simprocAttr, w4]
            exact same (fun h => by have := h.2.1; rw [q2] at this; cases this)
          | false =>
            simp only [go_sem, simprocAttr, v2.1, m2, rowAt_get o3, x2]
            have change : (s.1.getD b.toNat 0 < 0 ∨ s.1.getD a.toNat 0 + g.metric k < s.1.getD b.toNat 0) → Back (fun m fr σ => ∃ (k : Nat) (s : List Int × Bool), k ≤ 2 * g.ls.length ∧ m = 2 * g.ls.length - k ∧ fr = [(1, .lst (bools down)), (3, .ptr gid 0 0 0), (9, .sl oid 0 0 g.n.toNat 1), (11, .b s.2), (12, .i k)] ∧
                s = (List.range k).foldl (bfStep g down) (d, false) ∧ s.1.length = g.n.toNat ∧ σ.get oid = some (.row 0 false 1 (ints s.1)) ∧ σ.get gid = some (.row 0 false 2 [[.sc (.int .i64 g.n), .lst (g.ls.map Lk.row)]]) ∧ Small s.1 ∧
                pot s.1 ≤ pot d - (if s.2 then 1 else 0)) (2 * g.ls.length - k) [(1, .lst (bools down)), (3, .ptr gid 0 0 0), (9, .sl oid 0 0 g.n.toNat 1), (11, .b true), (12, .i ((k + 1 : Nat) : Int))] (σ3.set oid (.row 0 false 1 ((ints s.1).set b.toNat [.sc (.int .i64 (s.1.getD a.toNat 0 + g.metric k))]))) := fun hq3 => by
              have hbg : s.1.getD b.toNat 0 = s.1[b.toNat] := by simp [hbi]
              have hcond : bfCond g down s.1 k := by unfold bfCond; rw [ha, hb]; exact ⟨q1, q2, hq3⟩
              have hnew : bfStep g down s k = (s.1.set b.toNat (s.1.getD a.toNat 0 + g.metric k), true) := by unfold bfStep; rw [if_pos hcond, ha, hb]
              refine back_of (2 * g.ls.length - (k + 1)) (by omega) ⟨k + 1, (s.1.set b.toNat (s.1.getD a.toNat 0 + g.metric k), true), by omega, rfl, rfl, ?_, by simpa using hlen3, ?_, ?_, ?_, ?_⟩
              · rw [hstep, hnew]
              · rw [Store.get_set_self, ints_set]
              · rw [Store.get_set_ne _ _ hne1, g3]
              · exact hsm3.step hbi ha' q1 v5 v6 (by rw [← hbg]; exact hq3)
              · have hp4 := pot_set (x := s.1.getD a.toNat 0 + g.metric k) hbi
                rw [← hbg] at hp4
                have hn : ¬ (s.1.getD a.toNat 0 + g.metric k < 0) := by omega
                simp only [hn, if_false] at hp4
                simp only [if_true]
                have hbig : s.1.getD a.toNat 0 + g.metric k < big := by unfold big; omega
                rw [hp4]
                split <;> split at hp3 <;> omega
            by_cases q3 : s.1.getD b.toNat 0 < 0
            · simp only [go_sem, simprocAttr, q3, v2.1, m2, rowAt_get o3, x2, w4]
              exact change (.inl q3)
            · simp only [go_sem, simprocAttr, q3, v2.1, m2, rowAt_get o3, x2]
              by_cases q4 : s.1.getD a.toNat 0 + g.metric k < s.1.getD b.toNat 0
              · simp only [go_sem, simprocAttr, q4, v2.1, m2, rowAt_get o3, x2, w4]
                exact change (.inr q4)
              · simp only [go_sem, simprocAttr, q4, w4]
                exact same (fun h => by have := h.2.2; rw [ha, hb] at this; omega)
        · simp only [go_sem, simprocAttr, q1, w4]
          exact same (fun h => by have := h.1; rw [ha] at this; exact q1 this)
      · simp only [go_sem, simprocAttr]
        have e : k = 2 * g.ls.length := by omega
        subst e
        have hs' : s = bfSweep g down d := hs
        unfold bf at hbf
        rw [← hs'] at hbf
        refine back_le _ ?_ [(1, .lst (bools down)), (3, .ptr gid 0 0 0), (9, .sl oid 0 0 g.n.toNat 1), (11, .b s.2)] (by simp [Fr.get]) ⟨f', s.1, s.2, rfl, rfl, hlen3, o3, g3, hsm3, ?_⟩
        · have p1 := pot_nonneg s.1
          cases hm : s.2 <;> simp [hm] at hp3 ⊢
          omega
        · have p1 := pot_nonneg s.1
          cases hm : s.2 <;> simp [hm] at hp3 hbf ⊢
          · exact hbf
          · exact ⟨by omega, hbf⟩
end Go.Proofs

set_option linter.unusedVariables false
namespace Go.Proofs
/-! ### The heap's order -/
def HOrd (l : List (Int × Int)) : Prop := ∀ i, 0 < i → i < l.length → ¬ lt2 (hg l i) (hg l ((i - 1) / 2))
def UpInv (l : List (Int × Int)) (i : Nat) : Prop :=
  (∀ j, 0 < j → j < l.length → j ≠ i → ¬ lt2 (hg l j) (hg l ((j - 1) / 2))) ∧ (∀ c, 0 < c → c < l.length → (c - 1) / 2 = i → 0 < i → ¬ lt2 (hg l c) (hg l ((i - 1) / 2)))
def DownInv (l : List (Int × Int)) (i : Nat) : Prop :=
  (∀ j, 0 < j → j < l.length → (j - 1) / 2 ≠ i → ¬ lt2 (hg l j) (hg l ((j - 1) / 2))) ∧ (∀ c, 0 < c → c < l.length → (c - 1) / 2 = i → 0 < i → ¬ lt2 (hg l c) (hg l ((i - 1) / 2)))
theorem lt2_trans {p q r : Int × Int} (h : lt2 p q) (h' : lt2 q r) : lt2 p r := by
  rcases h with h | ⟨h1, h2⟩ <;> rcases h' with h3 | ⟨h3, h4⟩
  · exact .inl (by omega)
  · exact .inl (by omega)
  · exact .inl (by omega)
  · exact .inr ⟨by omega, by omega⟩
theorem lt2_asymm {p q : Int × Int} (h : lt2 p q) : ¬ lt2 q p := by
  rintro (h3 | ⟨h3, h4⟩) <;> rcases h with h | ⟨h1, h2⟩ <;> omega
theorem lt2_irrefl (p : Int × Int) : ¬ lt2 p p := fun h => lt2_asymm h h
theorem hg_swap {l : List (Int × Int)} {i j : Nat} (hi : i < l.length) (hj : j < l.length) (k : Nat) : hg (hswap l i j) k = if k = j then hg l i else if k = i then hg l j else hg l k := by
  unfold hswap hg
  simp only [List.getD_eq_getElem?_getD, List.getElem?_set, List.length_set]
  by_cases h1 : k = j
  · subst h1; simp [hj]
  · by_cases h2 : k = i
    · subst h2
      have : ¬ j = k := fun e => h1 e.symm
      simp [this, h1, hi]
    · have h3 : ¬ j = k := fun e => h1 e.symm
      have h4 : ¬ i = k := fun e => h2 e.symm
      simp [h1, h2, h3, h4]
theorem siftUp_ord : ∀ (f : Nat) (l : List (Int × Int)) (i : Nat), i < f → i < l.length → UpInv l i → HOrd (siftUp f l i)
  | 0, l, i, h, _, _ => by omega
  | f + 1, l, i, h, hi, hu => by
    unfold siftUp
    by_cases h0 : i = 0
    · rw [if_pos h0]
      subst h0
      exact fun j h1 h2 => hu.1 j h1 h2 (by omega)
    · rw [if_neg h0]
      by_cases h1 : lt2 (hg l i) (hg l ((i - 1) / 2))
      · rw [if_pos h1]
        have hp : (i - 1) / 2 < l.length := by omega
        refine siftUp_ord f _ _ (by omega) (by rw [hswap_len]; omega) ⟨fun j j1 j2 j3 => ?_, fun c c1 c2 c3 c4 => ?_⟩
        · rw [hswap_len] at j2
          rw [hg_swap hi hp, hg_swap hi hp, if_neg j3]
          by_cases e1 : j = i
          · subst e1
            rw [if_pos rfl, if_pos rfl]
            unfold lt2 at *; omega
          · rw [if_neg e1]
            have a1 := hu.1 j j1 j2 e1
            by_cases e2 : (j - 1) / 2 = (i - 1) / 2
            · rw [if_pos e2]
              rw [e2] at a1
              unfold lt2 at *; omega
            · rw [if_neg e2]
              by_cases e3 : (j - 1) / 2 = i
              · rw [if_pos e3]
                exact hu.2 j j1 j2 e3 (by omega)
              · rw [if_neg e3]
                exact a1
        · rw [hswap_len] at c2
          rw [hg_swap hi hp, hg_swap hi hp, if_neg (by omega : ¬ c = (i - 1) / 2), if_neg (by omega : ¬ ((i - 1) / 2 - 1) / 2 = (i - 1) / 2), if_neg (by omega : ¬ ((i - 1) / 2 - 1) / 2 = i)]
          have a1 := hu.1 ((i - 1) / 2) c4 hp (by omega)
          by_cases e1 : c = i
          · rw [if_pos e1]
            exact a1
          · rw [if_neg e1]
            have a2 := hu.1 c c1 c2 e1
            rw [c3] at a2
            unfold lt2 at *; omega
      · rw [if_neg h1]
        intro j j1 j2
        by_cases e : j = i
        · subst e; exact h1
        · exact hu.1 j j1 j2 e
theorem hg_app {l : List (Int × Int)} {p : Int × Int} {i : Nat} : hg (l ++ [p]) i = if i < l.length then hg l i else if i = l.length then p else (0, 0) := by
  unfold hg
  simp only [List.getD_eq_getElem?_getD, List.getElem?_append]
  by_cases h : i < l.length
  · simp [h]
  · by_cases h2 : i = l.length
    · subst h2; simp
    · simp [h, h2]
      rw [List.getElem?_eq_none (by simp; omega)]
      rfl
theorem hpush_ord {l : List (Int × Int)} (h : HOrd l) (k v : Int) : HOrd (hpush l k v) := by
  refine siftUp_ord _ _ _ (by omega) (by simp) ⟨fun j j1 j2 j3 => ?_, fun c c1 c2 c3 c4 => ?_⟩
  · simp at j2
    rw [hg_app, hg_app, if_pos (by omega), if_pos (by omega)]
    exact h j j1 (by omega)
  · simp at c2; omega
theorem leastOf_spec (l : List (Int × Int)) (i : Nat) : (leastOf l i = i ∨ leastOf l i = 2 * i + 1 ∨ leastOf l i = 2 * i + 2) ∧ (leastOf l i ≠ i → lt2 (hg l (leastOf l i)) (hg l i)) ∧
    (∀ c, (c = 2 * i + 1 ∨ c = 2 * i + 2) → c < l.length → ¬ lt2 (hg l c) (hg l (leastOf l i))) := by
  unfold leastOf better
  by_cases h1 : 2 * i + 1 < l.length ∧ lt2 (l.getD (2 * i + 1) (0, 0)) (l.getD i (0, 0))
  · simp only [if_pos h1]
    by_cases h2 : 2 * i + 2 < l.length ∧ lt2 (l.getD (2 * i + 2) (0, 0)) (l.getD (2 * i + 1) (0, 0))
    · simp only [if_pos h2]
      refine ⟨by first | omega | simp, fun _ => ?_, fun c hc hl => ?_⟩
      · exact lt2_trans h2.2 h1.2
      · have b := h2.2
        rcases hc with rfl | rfl
        · exact lt2_asymm b
        · exact lt2_irrefl _
    · simp only [if_neg h2]
      refine ⟨by first | omega | simp, fun _ => h1.2, fun c hc hl => ?_⟩
      rcases hc with rfl | rfl
      · exact lt2_irrefl _
      · exact fun h => h2 ⟨hl, h⟩
  · simp only [if_neg h1]
    by_cases h2 : 2 * i + 2 < l.length ∧ lt2 (l.getD (2 * i + 2) (0, 0)) (l.getD i (0, 0))
    · simp only [if_pos h2]
      refine ⟨by first | omega | simp, fun _ => h2.2, fun c hc hl => ?_⟩
      have b := h2.2
      rcases hc with rfl | rfl
      · have a : ¬ lt2 (l.getD (2 * i + 1) (0, 0)) (l.getD i (0, 0)) := fun h => h1 ⟨hl, h⟩
        exact fun h => a (lt2_trans h b)
      · exact lt2_irrefl _
    · simp only [if_neg h2]
      refine ⟨.inl trivial, fun h => absurd rfl h, fun c hc hl => ?_⟩
      rcases hc with rfl | rfl
      · exact fun h => h1 ⟨hl, h⟩
      · exact fun h => h2 ⟨hl, h⟩
theorem siftDown_ord : ∀ (f : Nat) (l : List (Int × Int)) (i : Nat), l.length < f + i → DownInv l i → HOrd (siftDown f l i)
  | 0, l, i, h, hd => fun j j1 j2 => hd.1 j j1 j2 (by have j2' : j < l.length := j2; omega)
  | f + 1, l, i, h, hd => by
    obtain ⟨s1, s2, s3⟩ := leastOf_spec l i
    obtain ⟨q1, q2⟩ := leastOf_le l i
    unfold siftDown
    by_cases h0 : leastOf l i = i
    · rw [if_pos h0]
      intro j j1 j2
      by_cases e : (j - 1) / 2 = i
      · have := s3 j (by omega) j2
        rw [h0] at this
        rw [e]; exact this
      · exact hd.1 j j1 j2 e
    · rw [if_neg h0]
      have hk := q2 h0
      have hlt := s2 h0
      generalize leastOf l i = k at *
      have hi : i < l.length := by omega
      have hpk : (k - 1) / 2 = i := by omega
      refine siftDown_ord f _ _ (by rw [hswap_len]; omega) ⟨fun j j1 j2 j3 => ?_, fun c c1 c2 c3 c4 => ?_⟩
      · rw [hswap_len] at j2
        rw [hg_swap hi hk, hg_swap hi hk, if_neg j3]
        by_cases e1 : j = k
        · subst e1
          rw [if_pos rfl, hpk, if_pos rfl]
          unfold lt2 at *; omega
        · rw [if_neg e1]
          by_cases e2 : j = i
          · subst e2
            rw [if_pos rfl, if_neg (by omega : ¬ (j - 1) / 2 = j)]
            exact hd.2 k (by omega) hk hpk j1
          · rw [if_neg e2]
            by_cases e3 : (j - 1) / 2 = i
            · rw [if_pos e3]
              exact s3 j (by omega) j2
            · rw [if_neg e3]
              exact hd.1 j j1 j2 e3
      · rw [hswap_len] at c2
        rw [hg_swap hi hk, hg_swap hi hk, if_neg (by omega : ¬ c = k), if_neg (by omega : ¬ c = i), if_neg (by omega : ¬ (k - 1) / 2 = k), hpk, if_pos rfl]
        have := hd.1 c c1 c2 (by omega)
        rw [c3] at this
        exact this
theorem popped_ord {l : List (Int × Int)} (h : HOrd l) : HOrd (popped l) := by
  by_cases hl : l = []
  · subst hl; intro i h1 h2; simp [popped, siftDown] at h2
  have hpos : 0 < l.length := List.length_pos_iff.2 hl
  have hlen : ((l.set 0 (hg l (l.length - 1))).take (l.length - 1)).length = l.length - 1 := by simp
  have hget : ∀ i, 0 < i → i < l.length - 1 → hg ((l.set 0 (hg l (l.length - 1))).take (l.length - 1)) i = hg l i := fun i h1 h2 => by
    unfold hg
    simp only [List.getD_eq_getElem?_getD, List.getElem?_take, if_pos h2, List.getElem?_set]
    rw [if_neg (by omega)]
  unfold popped
  refine siftDown_ord _ _ _ (by rw [hlen]; omega) ⟨fun j j1 j2 j3 => ?_, fun c c1 c2 c3 c4 => by omega⟩
  rw [hlen] at j2
  rw [hget j j1 j2, hget _ (by omega) (by omega)]
  exact h j j1 (by omega)
theorem root_min {l : List (Int × Int)} (h : HOrd l) : ∀ (i : Nat), i < l.length → ¬ lt2 (hg l i) (hg l 0) := by
  intro i
  induction i using Nat.strongRecOn with
  | _ i ih =>
    intro hi
    by_cases h0 : i = 0
    · subst h0; exact lt2_irrefl _
    · have a := h i (by omega) hi
      have b := ih ((i - 1) / 2) (by omega) (by omega)
      unfold lt2 at *; omega
theorem root_le {l : List (Int × Int)} (h : HOrd l) {p : Int × Int} (hp : p ∈ l) : (hg l 0).1 ≤ p.1 := by
  obtain ⟨i, hi, rfl⟩ := List.getElem_of_mem hp
  have := root_min h i hi
  rw [hg_eq hi] at this
  unfold lt2 at this; omega
end Go.Proofs

set_option linter.unusedVariables false
namespace Go.Proofs
/-! ### Distances -/
def Use (g : Gr) (down : List Bool) (k : Int) : Prop := 0 ≤ k ∧ k < 2 * (g.ls.length : Int) ∧ isUp down k = true
abbrev at0 (d : List Int) (v : Int) : Int := d.getD v.toNat 0
structure IsDist (g : Gr) (down : List Bool) (node : Int) (d : List Int) : Prop where
  len : d.length = g.n.toNat
  src : at0 d node = 0
  neg : ∀ v, 0 ≤ v → v < g.n → at0 d v = -1 ∨ 0 ≤ at0 d v
  closed : ∀ k, Use g down k → 0 ≤ at0 d (g.ends k).1 → 0 ≤ at0 d (g.ends k).2.1 ∧ at0 d (g.ends k).2.1 ≤ at0 d (g.ends k).1 + g.metric k
  reach : ∀ v, 0 ≤ v → v < g.n → 0 ≤ at0 d v → (v = node ∧ at0 d v = 0) ∨ ∃ k, Use g down k ∧ (g.ends k).2.1 = v ∧ 0 ≤ at0 d (g.ends k).1 ∧ at0 d v = at0 d (g.ends k).1 + g.metric k

theorem dist_le {g : Gr} (hg : g.Ok) {down : List Bool} {node : Int} {d d' : List Int} (h : IsDist g down node d) (h' : IsDist g down node d') :
    ∀ (N : Nat) (v : Int), 0 ≤ v → v < g.n → 0 ≤ at0 d' v → at0 d' v ≤ N → 0 ≤ at0 d v ∧ at0 d v ≤ at0 d' v := by
  intro N
  induction N using Nat.strongRecOn with
  | _ N ih =>
    intro v v0 v1 h0 hN
    rcases h'.reach v v0 v1 h0 with ⟨rfl, h2⟩ | ⟨k, hk, hb, ha, hd⟩
    · rw [h.src, h2]; exact ⟨Int.le_refl _, Int.le_refl _⟩
    · obtain ⟨e1, e2, e3, e4⟩ := g.ends_of hg hk.1 hk.2.1
      obtain ⟨m1, m2⟩ := g.metric_of hg hk.1 hk.2.1
      have := ih (at0 d' (g.ends k).1).toNat (by omega) (g.ends k).1 e1.1 e1.2 ha (by omega)
      have c := h.closed k hk this.1
      rw [hb] at c
      omega
theorem dist_uniq {g : Gr} (hg : g.Ok) {down : List Bool} {node : Int} {d d' : List Int} (h : IsDist g down node d) (h' : IsDist g down node d') : d = d' := by
  refine List.ext_getElem (h.len.trans h'.len.symm) fun i h1 h2 => ?_
  have hi : (i : Int) < g.n := by have := h.len; omega
  have e1 : at0 d i = d[i] := by simp [h1]
  have e2 : at0 d' i = d'[i] := by simp [h2]
  rw [← e1, ← e2]
  have a1 := h.neg i (by omega) hi
  have a2 := h'.neg i (by omega) hi
  by_cases p1 : 0 ≤ at0 d i
  · have b1 := dist_le hg h' h (at0 d i).toNat i (by omega) hi p1 (by omega)
    have b2 := dist_le hg h h' (at0 d' i).toNat i (by omega) hi b1.1 (by omega)
    omega
  · by_cases p2 : 0 ≤ at0 d' i
    · have b2 := dist_le hg h h' (at0 d' i).toNat i (by omega) hi p2 (by omega)
      omega
    · omega

theorem up_down (down : List Bool) (k : Int) (h : 0 ≤ k) : isUp down k = !isDown down (k / 2) := by
  unfold isUp isDown
  by_cases h1 : (down.length : Int) ≤ k / 2
  · have h2 : ¬ (k / 2 < down.length) := by omega
    simp [h1, h2]
  · have h2 : k / 2 < down.length := by omega
    have h3 : (0 : Int) ≤ k / 2 := by omega
    simp [h1, h2, h3]

/-! ### The reference's way -/
structure BfInv (g : Gr) (down : List Bool) (node : Int) (d : List Int) : Prop where
  len : d.length = g.n.toNat
  src : at0 d node = 0
  neg : ∀ v, 0 ≤ v → v < g.n → at0 d v = -1 ∨ 0 ≤ at0 d v
  small : Small d
  reach : ∀ v, 0 ≤ v → v < g.n → 0 ≤ at0 d v → (v = node ∧ at0 d v = 0) ∨ ∃ k, Use g down k ∧ (g.ends k).2.1 = v ∧ 0 ≤ at0 d (g.ends k).1 ∧ at0 d (g.ends k).1 + g.metric k ≤ at0 d v
theorem at0_set {d : List Int} {u v x : Int} (hu : 0 ≤ u) (hul : u.toNat < d.length) (hv : 0 ≤ v) : at0 (d.set u.toNat x) v = if v = u then x else at0 d v := by
  unfold at0
  simp only [List.getD_eq_getElem?_getD, List.getElem?_set]
  by_cases h : v = u
  · subst h; simp [hul]
  · have : ¬ u.toNat = v.toNat := by omega
    simp [h, this]
theorem bf_step {g : Gr} (hg : g.Ok) {down : List Bool} {node : Int} (hn : 0 ≤ node ∧ node < g.n) {d : List Int} (h : BfInv g down node d) {k : Nat} (hk : k < 2 * g.ls.length) (hc : bfCond g down d k) :
    BfInv g down node (d.set (g.ends k).2.1.toNat (at0 d (g.ends k).1 + g.metric k)) ∧ pot (d.set (g.ends k).2.1.toNat (at0 d (g.ends k).1 + g.metric k)) < pot d := by
  obtain ⟨e1, e2, e3, e4⟩ := g.ends_of hg (e := k) (by omega) (by omega)
  obtain ⟨m1, m2⟩ := g.metric_of hg (e := k) (by omega) (by omega)
  obtain ⟨c1, c2, c3⟩ := hc
  have hlen := h.len
  have hbl : (g.ends k).2.1.toNat < d.length := by omega
  have hal : (g.ends k).1.toNat < d.length := by omega
  have hma : at0 d (g.ends k).1 ∈ d := by
    have : at0 d (g.ends k).1 = d[(g.ends k).1.toNat] := by simp [hal]
    rw [this]; exact List.getElem_mem hal
  have hbe : at0 d (g.ends k).2.1 = d[(g.ends k).2.1.toNat] := by simp [hbl]
  have hsm := h.small _ hma
  have hneg := neg_le d
  have huse : Use g down k := ⟨by omega, by omega, by rw [up_down _ _ (by omega), c2]; rfl⟩
  generalize ha : (g.ends k).1 = a at *
  generalize hb : (g.ends k).2.1 = b at *
  have c1' : 0 ≤ at0 d a := c1
  have c3' : at0 d b < 0 ∨ at0 d a + g.metric k < at0 d b := c3
  have fall : ∀ v, 0 ≤ v → 0 ≤ at0 d v → 0 ≤ at0 (d.set b.toNat (at0 d a + g.metric k)) v ∧ at0 (d.set b.toNat (at0 d a + g.metric k)) v ≤ at0 d v := fun v v0 hv => by
    rw [at0_set e2.1 hbl v0]
    split
    · rename_i e; subst e; omega
    · exact ⟨hv, Int.le_refl _⟩
  refine ⟨⟨by simpa using h.len, ?_, fun v v0 v1 => ?_, ?_, fun v v0 v1 hv => ?_⟩, ?_⟩
  · rw [at0_set e2.1 hbl hn.1]
    split
    · rename_i e; subst e
      have := h.src; omega
    · exact h.src
  · rw [at0_set e2.1 hbl v0]
    split
    · exact .inr (by omega)
    · exact h.neg v v0 v1
  · exact h.small.step hbl hma c1' m1 m2 (by rw [← hbe]; exact c3')
  · by_cases hvb : v = b
    · refine .inr ⟨k, huse, hb.trans hvb.symm, ?_, ?_⟩
      · rw [ha]; exact (fall a e1.1 c1').1
      · rw [ha, at0_set e2.1 hbl v0, if_pos hvb, at0_set e2.1 hbl e1.1, if_neg (fun e => e4 e)]
        exact Int.le_refl _
    · have e5 : at0 (d.set b.toNat (at0 d a + g.metric k)) v = at0 d v := by rw [at0_set e2.1 hbl v0, if_neg hvb]
      rw [e5] at hv ⊢
      rcases h.reach v v0 v1 hv with h1 | ⟨j, j1, j2, j3, j4⟩
      · exact .inl h1
      · obtain ⟨f1, _⟩ := g.ends_of hg j1.1 j1.2.1
        have := fall _ f1.1 j3
        exact .inr ⟨j, j1, j2, this.1, by omega⟩
  · rw [pot_set hbl, ← hbe]
    have : ¬ (at0 d a + g.metric k < 0) := by omega
    rw [if_neg this]
    have hbig : at0 d a + g.metric k < big := by unfold big; have := hg.2.2.1; omega
    split <;> omega
theorem bf_sweep {g : Gr} (hg : g.Ok) {down : List Bool} {node : Int} (hn : 0 ≤ node ∧ node < g.n) {d : List Int} (h : BfInv g down node d) : ∀ (k : Nat), k ≤ 2 * g.ls.length →
    BfInv g down node ((List.range k).foldl (bfStep g down) (d, false)).1 ∧
    (((List.range k).foldl (bfStep g down) (d, false)).2 = true → pot ((List.range k).foldl (bfStep g down) (d, false)).1 < pot d) ∧
    (((List.range k).foldl (bfStep g down) (d, false)).2 = false → ((List.range k).foldl (bfStep g down) (d, false)).1 = d ∧ ∀ j, j < k → ¬ bfCond g down d j)
  | 0, _ => ⟨h, (fun e => by cases e), fun _ => ⟨rfl, fun j hj => by omega⟩⟩
  | k + 1, hk => by
    obtain ⟨i1, i2, i3⟩ := bf_sweep hg hn h k (by omega)
    have e : (List.range (k + 1)).foldl (bfStep g down) (d, false) = bfStep g down ((List.range k).foldl (bfStep g down) (d, false)) k := by rw [List.range_succ, List.foldl_append]; rfl
    rw [e]
    generalize (List.range k).foldl (bfStep g down) (d, false) = s at *
    unfold bfStep
    by_cases hc : bfCond g down s.1 k
    · rw [if_pos hc]
      obtain ⟨j1, j2⟩ := bf_step hg hn i1 (by omega) hc
      refine ⟨j1, fun _ => ?_, (fun h => by cases h)⟩
      show pot (s.1.set (g.ends k).2.1.toNat (at0 s.1 (g.ends k).1 + g.metric k)) < pot d
      cases hs : s.2 with
      | true => have := i2 hs; omega
      | false => rw [(i3 hs).1] at j2 ⊢; exact j2
    · rw [if_neg hc]
      refine ⟨i1, i2, fun hs => ⟨(i3 hs).1, fun j hj => ?_⟩⟩
      by_cases hjk : j = k
      · subst hjk; rw [← (i3 hs).1]; exact hc
      · exact (i3 hs).2 j (by omega)
theorem bf_dist {g : Gr} (hg : g.Ok) {down : List Bool} {node : Int} (hn : 0 ≤ node ∧ node < g.n) : ∀ (f : Nat) (d : List Int), (pot d).toNat < f → BfInv g down node d → IsDist g down node (bf g down f d) ∧ Small (bf g down f d)
  | 0, d, h, _ => by omega
  | f + 1, d, h, hd => by
    obtain ⟨i1, i2, i3⟩ := bf_sweep hg hn hd (2 * g.ls.length) (Nat.le_refl _)
    unfold bf
    cases hs : (bfSweep g down d).2 with
    | true =>
      rw [if_pos rfl]
      have p1 := pot_nonneg (bfSweep g down d).1
      have p2 := i2 hs
      refine bf_dist hg hn f _ ?_ i1
      unfold bfSweep at p1 ⊢
      omega
    | false =>
      simp only [Bool.false_eq_true, if_false]
      obtain ⟨e, hc⟩ := i3 hs
      have e' : (bfSweep g down d).1 = d := e
      rw [e']
      have closed : ∀ k, Use g down k → 0 ≤ at0 d (g.ends k).1 → 0 ≤ at0 d (g.ends k).2.1 ∧ at0 d (g.ends k).2.1 ≤ at0 d (g.ends k).1 + g.metric k := fun k hk h0 => by
        have := hc k.toNat (by have := hk.1; have := hk.2.1; omega)
        have ek : ((k.toNat : Nat) : Int) = k := Int.toNat_of_nonneg hk.1
        unfold bfCond at this
        rw [ek] at this
        have hdn : isDown down (k / 2) = false := by
          have := hk.2.2
          rw [up_down _ _ hk.1] at this
          simpa using this
        have h1 : ¬ (at0 d (g.ends k).2.1 < 0 ∨ at0 d (g.ends k).1 + g.metric k < at0 d (g.ends k).2.1) := fun hx => this ⟨h0, hdn, hx⟩
        omega
      refine ⟨⟨hd.len, hd.src, hd.neg, closed, fun v v0 v1 hv => ?_⟩, hd.small⟩
      rcases hd.reach v v0 v1 hv with h1 | ⟨k, k1, k2, k3, k4⟩
      · exact .inl h1
      · have := closed k k1 k3
        rw [k2] at this
        exact .inr ⟨k, k1, k2, k3, by omega⟩
theorem refFrom_spec {g : Gr} (hg : g.Ok) {down : List Bool} {node : Int} (hn : 0 ≤ node ∧ node < g.n) : IsDist g down node (refFrom g down node) ∧ Small (refFrom g down node) := by
  unfold refFrom
  rw [if_pos ⟨g.check_ok.2 hg, hn⟩]
  have hl : node.toNat < (List.replicate g.n.toNat (-1 : Int)).length := by simp; omega
  have get : ∀ v, 0 ≤ v → v < g.n → at0 ((List.replicate g.n.toNat (-1)).set node.toNat 0) v = if v = node then 0 else -1 := fun v v0 v1 => by
    rw [at0_set hn.1 hl v0]
    split
    · rfl
    · have : v.toNat < g.n.toNat := by omega
      simp [at0, List.getElem?_replicate, this]
  refine bf_dist hg hn _ _ (Nat.lt_succ_self _) ⟨by simp, ?_, fun v v0 v1 => ?_, ?_, fun v v0 v1 hv => ?_⟩
  · rw [get node hn.1 hn.2, if_pos rfl]
  · rw [get v v0 v1]
    split
    · exact .inr (Int.le_refl _)
    · exact .inl rfl
  · intro x hx
    rcases List.mem_or_eq_of_mem_set hx with h5 | h5
    · exact .inl (List.mem_replicate.1 h5).2
    · subst h5
      refine .inr ⟨Int.le_refl _, ?_⟩
      have e5 := neg_set (x := 0) hl (Int.le_refl _)
      have l5 := neg_le (List.replicate g.n.toNat (-1 : Int))
      simp at e5 ⊢
      omega
  · rw [get v v0 v1] at hv ⊢
    split at hv
    · rename_i e; exact .inl ⟨e, by rw [if_pos e]⟩
    · omega
theorem refFrom_dist {g : Gr} (hg : g.Ok) {down : List Bool} {node : Int} (hn : 0 ≤ node ∧ node < g.n) : IsDist g down node (refFrom g down node) := (refFrom_spec hg hn).1
theorem refFrom_mild {g : Gr} {down : List Bool} {node : Int} : ∀ x ∈ refFrom g down node, -1 ≤ x ∧ x ≤ 671088640 := by
  intro x hx
  by_cases h : g.check.2 = 0 ∧ 0 ≤ node ∧ node < g.n
  · have hg := g.check_ok.1 h.1
    obtain ⟨h1, h2⟩ := refFrom_spec (down := down) hg h.2
    have hl := h1.len
    have hn := hg.2.2.1
    have hneg := neg_le (refFrom g down node)
    rcases h2 x hx with h3 | h3
    · omega
    · omega
  · unfold refFrom at hx
    rw [if_neg h] at hx
    cases hx
theorem refFrom_nil {g : Gr} {down : List Bool} {node : Int} : refFrom g down node = [] ↔ ¬ (g.check.2 = 0 ∧ 0 ≤ node ∧ node < g.n) := by
  constructor
  · intro h h'
    have hg := g.check_ok.1 h'.1
    have hl := (refFrom_dist (down := down) hg h'.2).len
    rw [h] at hl
    simp at hl
    have := hg.2.1
    omega
  · intro h
    unfold refFrom
    rw [if_neg h]
end Go.Proofs

set_option linter.unusedVariables false
namespace Go.Proofs
/-! ### The heap's way -/
structure DjInv (g : Gr) (down : List Bool) (node : Int) (Q : Int → Prop) (h : List (Int × Int)) (out : List Int) : Prop where
  len : out.length = g.n.toNat
  ord : HOrd h
  neg : ∀ v, 0 ≤ v → v < g.n → at0 out v = -1 ∨ 0 ≤ at0 out v
  key0 : ∀ p ∈ h, 0 ≤ p.1 ∧ 0 ≤ p.2 ∧ p.2 < g.n
  src : at0 out node = 0 ∨ (at0 out node = -1 ∧ (0, node) ∈ h)
  mono : ∀ v, 0 ≤ v → v < g.n → 0 ≤ at0 out v → ∀ p ∈ h, at0 out v ≤ p.1
  edge : ∀ k, Use g down k → 0 ≤ at0 out (g.ends k).1 → (0 ≤ at0 out (g.ends k).2.1 ∧ at0 out (g.ends k).2.1 ≤ at0 out (g.ends k).1 + g.metric k) ∨ (at0 out (g.ends k).1 + g.metric k, (g.ends k).2.1) ∈ h ∨ Q k
  orig : ∀ p ∈ h, p = (0, node) ∨ ∃ k, Use g down k ∧ (g.ends k).2.1 = p.2 ∧ 0 ≤ at0 out (g.ends k).1 ∧ p.1 = at0 out (g.ends k).1 + g.metric k
  reach : ∀ v, 0 ≤ v → v < g.n → 0 ≤ at0 out v → (v = node ∧ at0 out v = 0) ∨ ∃ k, Use g down k ∧ (g.ends k).2.1 = v ∧ 0 ≤ at0 out (g.ends k).1 ∧ at0 out v = at0 out (g.ends k).1 + g.metric k

theorem Gr.out_mem {g : Gr} {k x : Int} (h0 : 0 ≤ k) (h1 : k < 2 * (g.ls.length : Int)) (h2 : (g.ends k).1 = x) : k ∈ g.out x := by
  unfold Gr.out Gr.outN
  rw [List.mem_filterMap]
  have e : ((k.toNat : Nat) : Int) = k := Int.toNat_of_nonneg h0
  exact ⟨k.toNat, List.mem_range.2 (by omega), by simp only [e]; rw [if_pos h2]⟩
theorem hpush_mem_iff {h : List (Int × Int)} {k v : Int} {p : Int × Int} : p ∈ hpush h k v ↔ p ∈ h ∨ p = (k, v) := by
  rw [(hpush_perm h k v).mem_iff]; simp
theorem mem_popped {h : List (Int × Int)} (hne : h ≠ []) {p : Int × Int} (hp : p ∈ h) : p = hg h 0 ∨ p ∈ popped h := by
  have := (popped_perm hne).mem_iff.2 hp
  simpa using this

theorem dj_relax {g : Gr} (hg : g.Ok) {down : List Bool} {node far at_ : Int} {out : List Int} (hfar : 0 ≤ far) (hat : at0 out at_ = far) (htop : ∀ v, 0 ≤ v → v < g.n → 0 ≤ at0 out v → at0 out v ≤ far) :
    ∀ (es : List Int) (h : List (Int × Int)), (∀ e ∈ es, 0 ≤ e ∧ e < 2 * (g.ls.length : Int) ∧ (g.ends e).1 = at_) → DjInv g down node (fun k => k ∈ es) h out → DjInv g down node (fun _ => False) (es.foldl (relax1 g down far out) h) out
  | [], h, _, hi => ⟨hi.len, hi.ord, hi.neg, hi.key0, hi.src, hi.mono, (fun k hk h0 => by
      rcases hi.edge k hk h0 with h1 | h1 | h1
      · exact .inl h1
      · exact .inr (.inl h1)
      · cases h1), hi.orig, hi.reach⟩
  | e :: r, h, hes, hi => by
    obtain ⟨e0, e1, e2⟩ := hes e (by simp)
    obtain ⟨v1, v2, v3, v4⟩ := g.ends_of hg e0 e1
    obtain ⟨m1, m2⟩ := g.metric_of hg e0 e1
    rw [List.foldl_cons]
    refine dj_relax hg hfar hat htop r _ (fun x hx => hes x (by simp [hx])) ?_
    unfold relax1
    by_cases hc : isUp down e = true ∧ out.getD (g.ends e).2.1.toNat 0 = -1
    · rw [if_pos hc]
      have huse : Use g down e := ⟨e0, e1, hc.1⟩
      refine ⟨hi.len, hpush_ord hi.ord _ _, hi.neg, fun p hp => ?_, ?_, fun v w0 w1 hv p hp => ?_, fun k hk h0 => ?_, fun p hp => ?_, hi.reach⟩
      · rcases hpush_mem hp with h1 | h1
        · exact hi.key0 p h1
        · subst h1; exact ⟨by show 0 ≤ far + g.metric e; omega, v2⟩
      · rcases hi.src with h1 | ⟨h1, h2⟩
        · exact .inl h1
        · exact .inr ⟨h1, hpush_mem_iff.2 (.inl h2)⟩
      · rcases hpush_mem hp with h1 | h1
        · exact hi.mono v w0 w1 hv p h1
        · subst h1
          have := htop v w0 w1 hv
          show at0 out v ≤ far + g.metric e
          omega
      · rcases hi.edge k hk h0 with h1 | h1 | h1
        · exact .inl h1
        · exact .inr (.inl (hpush_mem_iff.2 (.inl h1)))
        · rcases List.mem_cons.1 h1 with h2 | h2
          · subst h2
            refine .inr (.inl (hpush_mem_iff.2 (.inr ?_)))
            rw [e2, hat]
          · exact .inr (.inr h2)
      · rcases hpush_mem hp with h1 | h1
        · exact hi.orig p h1
        · subst h1
          exact .inr ⟨e, huse, rfl, by rw [e2, hat]; exact hfar, by rw [e2, hat]⟩
    · rw [if_neg hc]
      refine ⟨hi.len, hi.ord, hi.neg, hi.key0, hi.src, hi.mono, fun k hk h0 => ?_, hi.orig, hi.reach⟩
      rcases hi.edge k hk h0 with h1 | h1 | h1
      · exact .inl h1
      · exact .inr (.inl h1)
      · rcases List.mem_cons.1 h1 with h2 | h2
        · subst h2
          refine .inl ?_
          have h3 : ¬ (at0 out (g.ends k).2.1 = -1) := fun hx => hc ⟨hk.2.2, hx⟩
          have h4 := hi.neg _ v2.1 v2.2
          have h5 := htop _ v2.1 v2.2 (by omega)
          rw [e2, hat]
          omega
        · exact .inr (.inr h2)

theorem dj_skip {g : Gr} {down : List Bool} {node : Int} {h : List (Int × Int)} {out : List Int} (hne : h ≠ []) (hi : DjInv g down node (fun _ => False) h out) (hs : ¬ at0 out (hg h 0).2 = -1) : DjInv g down node (fun _ => False) (popped h) out := by
  have hm := hg0_mem hne
  obtain ⟨k1, k2, k3⟩ := hi.key0 _ hm
  have hs' := hi.neg _ k2 k3
  refine ⟨hi.len, popped_ord hi.ord, hi.neg, fun p hp => hi.key0 p (popped_mem hp), ?_, fun v w0 w1 hv p hp => hi.mono v w0 w1 hv p (popped_mem hp), fun k hk h0 => ?_, fun p hp => hi.orig p (popped_mem hp), hi.reach⟩
  · rcases hi.src with h1 | ⟨h1, h2⟩
    · exact .inl h1
    · rcases mem_popped hne h2 with h3 | h3
      · rw [← h3] at hs
        exact absurd h1 hs
      · exact .inr ⟨h1, h3⟩
  · rcases hi.edge k hk h0 with h1 | h1 | h1
    · exact .inl h1
    · rcases mem_popped hne h1 with h3 | h3
      · refine .inl ?_
        have e1 : (g.ends k).2.1 = (hg h 0).2 := congrArg Prod.snd h3
        have e2 : at0 out (g.ends k).1 + g.metric k = (hg h 0).1 := congrArg Prod.fst h3
        have := hi.mono _ k2 k3 (by omega) _ hm
        rw [e1, e2]
        omega
      · exact .inr (.inl h3)
    · exact h1.elim

theorem dj_take {g : Gr} (hg' : g.Ok) {down : List Bool} {node : Int} (hn : 0 ≤ node ∧ node < g.n) {h : List (Int × Int)} {out : List Int} (hne : h ≠ []) (hi : DjInv g down node (fun _ => False) h out) (hs : at0 out (hg h 0).2 = -1) :
    DjInv g down node (fun _ => False) ((g.out (hg h 0).2).foldl (relax1 g down (hg h 0).1 (out.set (hg h 0).2.toNat (hg h 0).1)) (popped h)) (out.set (hg h 0).2.toNat (hg h 0).1) := by
  have hm := hg0_mem hne
  obtain ⟨k1, k2, k3⟩ := hi.key0 _ hm
  have hmin : ∀ p ∈ h, (hg h 0).1 ≤ p.1 := fun p hp => root_le hi.ord hp
  have hmono0 : ∀ v, 0 ≤ v → v < g.n → 0 ≤ at0 out v → at0 out v ≤ (hg h 0).1 := fun v w0 w1 hv => hi.mono v w0 w1 hv _ hm
  have horig := hi.orig _ hm
  have hmp : ∀ p, p ∈ h → p = hg h 0 ∨ p ∈ popped h := fun p hp => mem_popped hne hp
  have hlen := hi.len
  have pairEq : hg h 0 = ((hg h 0).1, (hg h 0).2) := rfl
  generalize hfar : (hg h 0).1 = far at *
  generalize hat : (hg h 0).2 = at_ at *
  have hal : at_.toNat < out.length := by omega
  have get : ∀ v, 0 ≤ v → at0 (out.set at_.toNat far) v = if v = at_ then far else at0 out v := fun v w0 => at0_set k2 hal w0
  have same : ∀ v, 0 ≤ v → 0 ≤ at0 out v → at0 (out.set at_.toNat far) v = at0 out v := fun v w0 hv => by
    rw [get v w0]
    split
    · rename_i e; subst e; omega
    · rfl
  have htop : ∀ v, 0 ≤ v → v < g.n → 0 ≤ at0 (out.set at_.toNat far) v → at0 (out.set at_.toNat far) v ≤ far := fun v w0 w1 hv => by
    rw [get v w0] at hv ⊢
    split
    · exact Int.le_refl _
    · rename_i e; rw [if_neg e] at hv; exact hmono0 v w0 w1 hv
  refine dj_relax hg' k1 (by rw [get at_ k2, if_pos rfl]) htop _ _ (fun e he => ?_) ⟨by simpa using hlen, popped_ord hi.ord, fun v w0 w1 => ?_, fun p hp => hi.key0 p (popped_mem hp), ?_, fun v w0 w1 hv p hp => ?_, fun k hk h0 => ?_, fun p hp => ?_, fun v w0 w1 hv => ?_⟩
  · exact g.mem_out he
  · rw [get v w0]
    split
    · exact .inr k1
    · exact hi.neg v w0 w1
  · rw [get node hn.1]
    rcases hi.src with h1 | ⟨h1, h2⟩
    · refine .inl ?_
      split
      · rename_i e; subst e; omega
      · exact h1
    · by_cases e : node = at_
      · rw [if_pos e]
        have := hmin _ h2
        exact .inl (by simp at this; omega)
      · rw [if_neg e]
        rcases hmp _ h2 with h3 | h3
        · rw [pairEq] at h3
          exact absurd (congrArg Prod.snd h3) e
        · exact .inr ⟨h1, h3⟩
  · exact Int.le_trans (htop v w0 w1 hv) (hmin p (popped_mem hp))
  · obtain ⟨v1, v2, v3, v4⟩ := g.ends_of hg' hk.1 hk.2.1
    by_cases ea : (g.ends k).1 = at_
    · exact .inr (.inr (g.out_mem hk.1 hk.2.1 ea))
    · rw [get _ v1.1, if_neg ea] at h0 ⊢
      rcases hi.edge k hk h0 with h1 | h1 | h1
      · refine .inl ?_
        rw [same _ v2.1 h1.1]
        exact h1
      · rcases hmp _ h1 with h3 | h3
        · rw [pairEq] at h3
          have e1 : (g.ends k).2.1 = at_ := congrArg Prod.snd h3
          have e2 : at0 out (g.ends k).1 + g.metric k = far := congrArg Prod.fst h3
          refine .inl ?_
          rw [get _ v2.1, if_pos e1, e2]
          exact ⟨k1, Int.le_refl _⟩
        · exact .inr (.inl h3)
      · exact h1.elim
  · rcases hi.orig p (popped_mem hp) with h1 | ⟨k, q1, q2, q3, q4⟩
    · exact .inl h1
    · obtain ⟨v1, _⟩ := g.ends_of hg' q1.1 q1.2.1
      exact .inr ⟨k, q1, q2, by rw [same _ v1.1 q3]; exact q3, by rw [same _ v1.1 q3]; exact q4⟩
  · by_cases e : v = at_
    · rw [get v w0, if_pos e]
      rcases horig with h1 | ⟨k, q1, q2, q3, q4⟩
      · rw [pairEq] at h1
        exact .inl ⟨e.trans (congrArg Prod.snd h1), congrArg Prod.fst h1⟩
      · obtain ⟨v1, _⟩ := g.ends_of hg' q1.1 q1.2.1
        exact .inr ⟨k, q1, by rw [q2, e], by rw [same _ v1.1 q3]; exact q3, by rw [same _ v1.1 q3]; exact q4⟩
    · rw [get v w0, if_neg e] at hv ⊢
      rcases hi.reach v w0 w1 hv with h1 | ⟨k, q1, q2, q3, q4⟩
      · exact .inl h1
      · obtain ⟨v1, _⟩ := g.ends_of hg' q1.1 q1.2.1
        exact .inr ⟨k, q1, q2, by rw [same _ v1.1 q3]; exact q3, by rw [same _ v1.1 q3]; exact q4⟩

theorem dij_dist {g : Gr} (hok : g.Ok) {down : List Bool} {node : Int} (hn : 0 ≤ node ∧ node < g.n) : ∀ (f : Nat) (h : List (Int × Int)) (out : List Int), unset out * (2 * g.ls.length + 2) + h.length < f → DjInv g down node (fun _ => False) h out → IsDist g down node (dij g down f h out)
  | 0, h, out, hf, _ => by omega
  | f + 1, h, out, hf, hi => by
    unfold dij
    by_cases hne : h = []
    · rw [if_pos hne]
      subst hne
      refine ⟨hi.len, ?_, hi.neg, fun k hk h0 => ?_, hi.reach⟩
      · rcases hi.src with h1 | ⟨_, h2⟩
        · exact h1
        · cases h2
      · rcases hi.edge k hk h0 with h1 | h1 | h1
        · exact h1
        · cases h1
        · exact h1.elim
    · rw [if_neg hne]
      have hpl := popped_len hne
      by_cases hs : out.getD (hg h 0).2.toNat 0 = -1
      · rw [if_pos hs]
        obtain ⟨k1, k2, k3⟩ := hi.key0 _ (hg0_mem hne)
        have hlen := hi.len
        have hU := unset_set (x := (hg h 0).1) (i := (hg h 0).2.toNat) (by omega) hs k1
        have hlen2 : ∀ (es : List Int) (h' : List (Int × Int)), (es.foldl (relax1 g down (hg h 0).1 (out.set (hg h 0).2.toNat (hg h 0).1)) h').length ≤ h'.length + es.length := by
          intro es
          induction es with
          | nil => intro h'; simp
          | cons e r ih =>
            intro h'
            rw [List.foldl_cons]
            have := ih (relax1 g down (hg h 0).1 (out.set (hg h 0).2.toNat (hg h 0).1) h' e)
            have h2 : (relax1 g down (hg h 0).1 (out.set (hg h 0).2.toNat (hg h 0).1) h' e).length ≤ h'.length + 1 := by
              unfold relax1
              split
              · rw [hpush_len]; exact Nat.le_refl _
              · omega
            simp only [List.length_cons]
            omega
        have h3 := hlen2 (g.out (hg h 0).2) (popped h)
        have h4 := g.out_len (hg h 0).2
        refine dij_dist hok hn f _ _ ?_ (dj_take hok hn hne hi hs)
        rw [← hU, Nat.add_mul] at hf
        omega
      · rw [if_neg hs]
        exact dij_dist hok hn f _ _ (by omega) (dj_skip hne hi hs)
theorem spfFrom_dist {g : Gr} (hg : g.Ok) {down : List Bool} {node : Int} (hn : 0 ≤ node ∧ node < g.n) : IsDist g down node (spfFrom g down node) := by
  unfold spfFrom
  rw [if_pos ⟨g.check_ok.2 hg, hn⟩]
  have get : ∀ v, 0 ≤ v → v < g.n → at0 (List.replicate g.n.toNat (-1)) v = -1 := fun v v0 v1 => by
    have : v.toNat < g.n.toNat := by omega
    simp [at0, this]
  have hone : ∀ p, p ∈ hpush [] 0 node → p = (0, node) := fun p hp => by
    rcases hpush_mem hp with h1 | h1
    · cases h1
    · exact h1
  refine dij_dist hg hn _ _ _ ?_ ⟨by simp, hpush_ord (fun i h1 h2 => by simp at h2) _ _, fun v v0 v1 => .inl (get v v0 v1), fun p hp => ?_, .inr ⟨get node hn.1 hn.2, hpush_mem_iff.2 (.inr rfl)⟩, fun v v0 v1 hv => ?_, fun k hk h0 => ?_, fun p hp => .inl (hone p hp), fun v v0 v1 hv => ?_⟩
  · rw [hpush_len]
    unfold spfFuel unset
    simp
  · rw [hone p hp]; exact ⟨Int.le_refl _, hn⟩
  · rw [get v v0 v1] at hv; omega
  · obtain ⟨e1, _⟩ := g.ends_of hg hk.1 hk.2.1
    rw [get _ e1.1 e1.2] at h0; omega
  · rw [get v v0 v1] at hv; omega
/-- The heap's distances are the reference's. -/
theorem spf_eq_ref (g : Gr) (down : List Bool) (node : Int) : spfFrom g down node = refFrom g down node := by
  by_cases h : g.check.2 = 0 ∧ 0 ≤ node ∧ node < g.n
  · exact dist_uniq (g.check_ok.1 h.1) (spfFrom_dist (g.check_ok.1 h.1) h.2) (refFrom_dist (g.check_ok.1 h.1) h.2)
  · unfold spfFrom refFrom
    rw [if_neg h, if_neg h]
end Go.Proofs

set_option linter.unusedSimpArgs false
set_option linter.unusedVariables false
namespace Go.Proofs
open Go.Ab

/-! ### The next edges -/
def nextCond (g : Gr) (down : List Bool) (to : List Int) (node : Int) (e : Int) : Bool :=
  isUp down e && (decide (0 ≤ at0 to (g.ends e).2.1) && decide (at0 to node = at0 to (g.ends e).2.1 + g.metric e))
def nextOf (g : Gr) (down : List Bool) (to : List Int) (node : Int) : List Int :=
  if g.check.2 = 0 ∧ (to.length : Int) = g.n ∧ (0 ≤ node ∧ node < g.n) ∧ 0 < at0 to node then (g.out node).filter (nextCond g down to node) else []
def Mild (to : List Int) : Prop := ∀ x ∈ to, -1 ≤ x ∧ x ≤ 1000000000000

theorem spf_next_ok (g : Gr) (down : List Bool) (to : List Int) (node : Int) (hto : Mild to) : PGood Try.prog 38 [g.val, .lst (bools down), .lst (ints to), .i node] (.lst (ints (nextOf g down to node))) := by
  refine pgood_of_out 2 (good_of_wp isF38 (Nat.le_refl _) ?_)
  unfold ac38
  simp only [go_sem, simprocAttr, Gr.val]
  intro gid hgid
  have nil : ¬ (g.check.2 = 0 ∧ (to.length : Int) = g.n ∧ (0 ≤ node ∧ node < g.n) ∧ 0 < at0 to node) → ∀ σ : Store, Out 2 σ .nils (.lst (ints (nextOf g down to node))) := fun h σ => by
    unfold nextOf; rw [if_neg h]; exact out_nils
  simp only [go_sem, simprocAttr]
  refine good_imm (right_ok g) rfl ?_
  simp only [go_sem, simprocAttr]
  by_cases hc : g.check.2 = 0
  case neg =>
    simp only [go_sem, simprocAttr, hc]
    exact nil (fun h => hc h.1) _
  simp only [go_sem, simprocAttr, hc]
  by_cases hl : (to.length : Int) = g.n
  case neg =>
    simp only [go_sem, simprocAttr, hl]
    exact nil (fun h => hl h.2.1) _
  simp only [go_sem, simprocAttr, hl]
  refine good_imm (is_ok g.n (.lst (g.ls.map Lk.row)) node) rfl ?_
  simp only [go_sem, simprocAttr]
  by_cases hn : 0 ≤ node ∧ node < g.n
  case neg =>
    simp only [go_sem, simprocAttr, hn]
    exact nil (fun h => hn h.2.2.1) _
  have hni : node.toNat < to.length := by omega
  have x1 : (ints to)[node.toNat]? = some [.sc (.int .i64 (at0 to node))] := ints_get (by simp [hni])
  simp only [go_sem, simprocAttr, hn, x1]
  by_cases hp : at0 to node ≤ 0
  · simp only [go_sem, simprocAttr, hp]
    exact nil (fun h => by omega) _
  obtain ⟨k1, k2, k3, k4⟩ := g.check_ok.1 hc
  have hok : g.Ok := ⟨k1, k2, k3, k4⟩
  simp only [go_sem, simprocAttr, hp]
  refine good_imm (out_ok g node (by omega)) rfl ?_
  simp only [go_sem, simprocAttr]
  have fin : nextOf g down to node = (g.out node).filter (nextCond g down to node) := by unfold nextOf; rw [if_pos ⟨hc, hl, hn, by omega⟩]
  have hol := g.out_len node
  have gal : ∀ (o : Ab.Obj), Alive (Store.empty.set gid o) [gid] := fun o => alive_cons (Store.get_set_self _ _ _) alive_nil
  refine loop_rule (fun m fr σ => ∃ (j : Nat) (v : AVal), j ≤ (g.out node).length ∧ m = (g.out node).length - j ∧ fr = [(1, .lst (bools down)), (2, .lst (ints to)), (3, .i node), (4, .ptr gid 0 0 0), (9, v), (40, .lst (ints (g.out node))), (41, .i (g.out node).length), (42, .i j)] ∧
    σ.get gid = some (.row 0 false 2 [[.sc (.int .i64 g.n), .lst (g.ls.map Lk.row)]]) ∧ Acc σ 1 v (ints (((g.out node).take j).filter (nextCond g down to node))) [gid]) _
    ⟨0, .nils, by omega, rfl, rfl, by simp, acc_nils (gal _)⟩ ?_
  rintro m fr σ ⟨j, v, hj, rfl, rfl, g1, acc⟩
  simp only [go_sem, simprocAttr]
  refine .intro (fun hjl => ?_) (fun hjl => ?_)
  · have hjl' : j < (g.out node).length := by omega
    have hmem := List.getElem_mem hjl'
    have x2 : (ints (g.out node))[j]? = some [.sc (.int .i64 (g.out node)[j])] := ints_get (List.getElem?_eq_getElem hjl')
    have htake : ((g.out node).take (j + 1)).filter (nextCond g down to node) = ((g.out node).take j).filter (nextCond g down to node) ++ (if nextCond g down to node (g.out node)[j] then [(g.out node)[j]] else []) := by
      rw [List.take_succ_eq_append_getElem hjl', List.filter_append]
      congr 1
      simp [List.filter_cons]
    generalize (g.out node)[j] = e at *
    obtain ⟨e1, e2, e3⟩ := g.mem_out hmem
    obtain ⟨v1, v2, v3, v4⟩ := g.ends_of hok e1 e2
    obtain ⟨v5, v6⟩ := g.metric_of hok e1 e2
    have n4 : (0 : Int) ≤ j := by omega
    have w4 : IntKind.i64.wrap ((j : Int) + 1) = ((j + 1 : Nat) : Int) := by rw [wrap_id (by omega) (by omega)]; rfl
    simp only [go_sem, simprocAttr, n4, x2, rowAt_get g1]
    refine good_imm (ends_ok g e (by omega)) rfl ?_
    simp only [go_sem, simprocAttr]
    unfold op38_53
    simp only [go_sem, simprocAttr]
    refine goodD_imm (up_ok down e e1 (by omega)) rfl ?_
    have same : nextCond g down to node e = false → Back (fun m fr σ => ∃ (j : Nat) (v : AVal), j ≤ (g.out node).length ∧ m = (g.out node).length - j ∧ fr = [(1, .lst (bools down)), (2, .lst (ints to)), (3, .i node), (4, .ptr gid 0 0 0), (9, v), (40, .lst (ints (g.out node))), (41, .i (g.out node).length), (42, .i j)] ∧
        σ.get gid = some (.row 0 false 2 [[.sc (.int .i64 g.n), .lst (g.ls.map Lk.row)]]) ∧ Acc σ 1 v (ints (((g.out node).take j).filter (nextCond g down to node))) [gid]) ((g.out node).length - j)
        [(1, .lst (bools down)), (2, .lst (ints to)), (3, .i node), (4, .ptr gid 0 0 0), (9, v), (40, .lst (ints (g.out node))), (41, .i (g.out node).length), (42, .i ((j + 1 : Nat) : Int))] σ := fun hne => by
      refine back_of ((g.out node).length - (j + 1)) (by omega) ⟨j + 1, v, by omega, rfl, rfl, g1, ?_⟩
      rw [htake, hne]
      simpa using acc
    have hq : IntKind.i64.wrap (e.tdiv 2) = e / 2 := by
      rw [Int.tdiv_eq_ediv_of_nonneg (by omega)]
      exact wrap_id (by omega) (by omega)
    have hlt : (e / 2).toNat < g.ls.length := by omega
    have x4 : (g.ls.map Lk.row)[(e / 2).toNat]? = some [.sc (.int .i64 (g.ls[(e / 2).toNat]).a), .sc (.int .i64 (g.ls[(e / 2).toNat]).b), .sc (.int .i64 (g.metric e)), .sc (.int .i64 (g.ls[(e / 2).toNat]).c)] := by
      simp [hlt, Lk.row, Gr.metric]
    have n6 : (0 : Int) ≤ e / 2 := by omega
    have cond : nextCond g down to node e = (isUp down e && (decide (0 ≤ at0 to (g.ends e).2.1) && decide (at0 to node = at0 to (g.ends e).2.1 + g.metric e))) := rfl
    generalize hto' : (g.ends e).2.1 = b at *
    have hbi : b.toNat < to.length := by omega
    have x3 : (ints to)[b.toNat]? = some [.sc (.int .i64 (at0 to b))] := ints_get (by simp [hbi])
    have mb : -1 ≤ at0 to b ∧ at0 to b ≤ 1000000000000 := hto _ (by simp [hbi])
    have mn : -1 ≤ at0 to node ∧ at0 to node ≤ 1000000000000 := hto _ (by simp [hni])
    have w5 : IntKind.i64.wrap (at0 to node - g.metric e) = at0 to node - g.metric e := wrap_id (by omega) (by omega)
    have hn1 := hn.1
    have hnl : node < (to.length : Int) := by omega
    have hbl : b < (to.length : Int) := by omega
    simp only [go_sem, simprocAttr]
    cases q1 : isUp down e with
    | false =>
      simp only [go_sem, simprocAttr, w4]
      exact same (by rw [cond, q1]; rfl)
    | true =>
      simp only [go_sem, simprocAttr, v2.1, x3]
      by_cases q2 : 0 ≤ at0 to b
      · simp only [go_sem, simprocAttr, q2, hn1, x1, rowAt_get g1, hq, n6, x4, w5, v2.1, x3]
        by_cases q3 : at0 to node - g.metric e = at0 to b
        · simp only [go_sem, simprocAttr, q3]
          have ct : nextCond g down to node e = true := by
            have this : at0 to node = at0 to b + g.metric e := by omega
            rw [cond, q1, decide_eq_true q2, decide_eq_true this]; rfl
          intro id2 hid2
          simp only [go_sem, simprocAttr]
          have hlenf := List.length_filter_le (nextCond g down to node) ((g.out node).take j)
          have hlent : ((g.out node).take j).length ≤ j := by simp; omega
          refine acc_append (acc.fresh hid2 _) (by simp only [ints_len, List.length_cons, List.length_nil]; omega) (by simp only [ints_len, List.length_cons, List.length_nil]; omega) fun v' σ' k1 k2 => ?_
          simp only [go_sem, simprocAttr, w4]
          refine back_of _ ?_ ⟨j + 1, v', by omega, rfl, rfl, ?_, ?_⟩
          · omega
          · rw [k2 gid (by simp), get_fresh hid2 (by rw [g1]; rfl), g1]
          · rw [htake, ct, if_pos rfl, ints_app]
            exact k1.less (by simp)
        · simp only [go_sem, simprocAttr, q3, w4]
          refine same ?_
          have this : ¬ at0 to node = at0 to b + g.metric e := by omega
          rw [cond, q1, decide_eq_false this, Bool.and_false, Bool.and_false]
      · simp only [go_sem, simprocAttr, q2, w4]
        refine same ?_
        rw [cond, q1, decide_eq_false q2, Bool.false_and, Bool.and_false]
  · simp only [go_sem, simprocAttr]
    have e : j = (g.out node).length := by omega
    subst e
    rw [List.take_length] at acc
    rw [fin]
    exact acc_out acc (ints_sc _)
end Go.Proofs

set_option linter.unusedSimpArgs false
set_option linter.unusedVariables false
namespace Go.Proofs
open Go.Ab

theorem ref_next_ok (g : Gr) (down : List Bool) (to : List Int) (node : Int) (hto : Mild to) : PGood Try.prog 58 [g.val, .lst (bools down), .lst (ints to), .i node] (.lst (ints (nextOf g down to node))) := by
  refine pgood_of_out 2 (good_of_wp isF58 (Nat.le_refl _) ?_)
  unfold ac58
  simp only [go_sem, simprocAttr, Gr.val]
  intro gid hgid
  have nil : ¬ (g.check.2 = 0 ∧ (to.length : Int) = g.n ∧ (0 ≤ node ∧ node < g.n) ∧ 0 < at0 to node) → ∀ σ : Store, Out 2 σ .nils (.lst (ints (nextOf g down to node))) := fun h σ => by
    unfold nextOf; rw [if_neg h]; exact out_nils
  simp only [go_sem, simprocAttr]
  refine good_imm (rcheck_ok g) rfl ?_
  simp only [go_sem, simprocAttr]
  by_cases hc : g.check.2 = 0
  case neg =>
    simp only [go_sem, simprocAttr, hc]
    exact nil (fun h => hc h.1) _
  simp only [go_sem, simprocAttr, hc]
  by_cases hl : (to.length : Int) = g.n
  case neg =>
    simp only [go_sem, simprocAttr, hl]
    exact nil (fun h => hl h.2.1) _
  simp only [go_sem, simprocAttr, hl]
  refine good_imm (node_ok g.n (.lst (g.ls.map Lk.row)) node) rfl ?_
  simp only [go_sem, simprocAttr]
  by_cases hn : 0 ≤ node ∧ node < g.n
  case neg =>
    simp only [go_sem, simprocAttr, hn]
    exact nil (fun h => hn h.2.2.1) _
  have hni : node.toNat < to.length := by omega
  have x1 : (ints to)[node.toNat]? = some [.sc (.int .i64 (at0 to node))] := ints_get (by simp [hni])
  simp only [go_sem, simprocAttr, hn, x1]
  by_cases hp : at0 to node ≤ 0
  · simp only [go_sem, simprocAttr, hp]
    exact nil (fun h => by omega) _
  obtain ⟨k1, k2, k3, k4⟩ := g.check_ok.1 hc
  have hok : g.Ok := ⟨k1, k2, k3, k4⟩
  simp only [go_sem, simprocAttr, hp]
  refine good_imm (rout_ok g node (by omega)) rfl ?_
  simp only [go_sem, simprocAttr]
  have fin : nextOf g down to node = (g.out node).filter (nextCond g down to node) := by unfold nextOf; rw [if_pos ⟨hc, hl, hn, by omega⟩]
  have hol := g.out_len node
  have gal : ∀ (o : Ab.Obj), Alive (Store.empty.set gid o) [gid] := fun o => alive_cons (Store.get_set_self _ _ _) alive_nil
  refine loop_rule (fun m fr σ => ∃ (j : Nat) (v : AVal), j ≤ (g.out node).length ∧ m = (g.out node).length - j ∧ fr = [(1, .lst (bools down)), (2, .lst (ints to)), (3, .i node), (4, .ptr gid 0 0 0), (11, v), (12, .lst (ints (g.out node))), (13, .i j)] ∧
    σ.get gid = some (.row 0 false 2 [[.sc (.int .i64 g.n), .lst (g.ls.map Lk.row)]]) ∧ Acc σ 1 v (ints (((g.out node).take j).filter (nextCond g down to node))) [gid]) _
    ⟨0, .nils, by omega, rfl, rfl, by simp, acc_nils (gal _)⟩ ?_
  rintro m fr σ ⟨j, v, hj, rfl, rfl, g1, acc⟩
  simp only [go_sem, simprocAttr]
  refine .intro (fun hjl => ?_) (fun hjl => ?_)
  · have hjl' : j < (g.out node).length := by omega
    have hmem := List.getElem_mem hjl'
    have x2 : (ints (g.out node))[j]? = some [.sc (.int .i64 (g.out node)[j])] := ints_get (List.getElem?_eq_getElem hjl')
    have htake : ((g.out node).take (j + 1)).filter (nextCond g down to node) = ((g.out node).take j).filter (nextCond g down to node) ++ (if nextCond g down to node (g.out node)[j] then [(g.out node)[j]] else []) := by
      rw [List.take_succ_eq_append_getElem hjl', List.filter_append]
      congr 1
      simp [List.filter_cons]
    generalize (g.out node)[j] = e at *
    obtain ⟨e1, e2, e3⟩ := g.mem_out hmem
    obtain ⟨v1, v2, v3, v4⟩ := g.ends_of hok e1 e2
    obtain ⟨v5, v6⟩ := g.metric_of hok e1 e2
    have n4 : (0 : Int) ≤ j := by omega
    have w4 : IntKind.i64.wrap ((j : Int) + 1) = ((j + 1 : Nat) : Int) := by rw [wrap_id (by omega) (by omega)]; rfl
    have hjl2 : (j : Int) < (g.out node).length := hjl
    simp only [go_sem, simprocAttr]
    unfold op58_54
    simp only [go_sem, simprocAttr, n4, x2, rowAt_get g1]
    refine goodD_imm (rends_ok g e (by omega)) rfl ?_
    simp only [go_sem, simprocAttr]
    unfold op58_63
    have hq : IntKind.i64.wrap (e.tdiv 2) = e / 2 := by
      rw [Int.tdiv_eq_ediv_of_nonneg (by omega)]
      exact wrap_id (by omega) (by omega)
    simp only [go_sem, simprocAttr, n4, x2, hq]
    refine goodD_imm (isdown_ok down (e / 2)) rfl ?_
    have same : nextCond g down to node e = false → Back (fun m fr σ => ∃ (j : Nat) (v : AVal), j ≤ (g.out node).length ∧ m = (g.out node).length - j ∧ fr = [(1, .lst (bools down)), (2, .lst (ints to)), (3, .i node), (4, .ptr gid 0 0 0), (11, v), (12, .lst (ints (g.out node))), (13, .i j)] ∧
        σ.get gid = some (.row 0 false 2 [[.sc (.int .i64 g.n), .lst (g.ls.map Lk.row)]]) ∧ Acc σ 1 v (ints (((g.out node).take j).filter (nextCond g down to node))) [gid]) ((g.out node).length - j)
        [(1, .lst (bools down)), (2, .lst (ints to)), (3, .i node), (4, .ptr gid 0 0 0), (11, v), (12, .lst (ints (g.out node))), (13, .i ((j + 1 : Nat) : Int))] σ := fun hne => by
      refine back_of ((g.out node).length - (j + 1)) (by omega) ⟨j + 1, v, by omega, rfl, rfl, g1, ?_⟩
      rw [htake, hne]
      simpa using acc
    have hlt : (e / 2).toNat < g.ls.length := by omega
    have x4 : (g.ls.map Lk.row)[(e / 2).toNat]? = some [.sc (.int .i64 (g.ls[(e / 2).toNat]).a), .sc (.int .i64 (g.ls[(e / 2).toNat]).b), .sc (.int .i64 (g.metric e)), .sc (.int .i64 (g.ls[(e / 2).toNat]).c)] := by
      simp [hlt, Lk.row, Gr.metric]
    have n6 : (0 : Int) ≤ e / 2 := by omega
    have cond : nextCond g down to node e = (isUp down e && (decide (0 ≤ at0 to (g.ends e).2.1) && decide (at0 to node = at0 to (g.ends e).2.1 + g.metric e))) := rfl
    generalize hto' : (g.ends e).2.1 = b at *
    have hbi : b.toNat < to.length := by omega
    have x3 : (ints to)[b.toNat]? = some [.sc (.int .i64 (at0 to b))] := ints_get (by simp [hbi])
    have mb : -1 ≤ at0 to b ∧ at0 to b ≤ 1000000000000 := hto _ (by simp [hbi])
    have mn : -1 ≤ at0 to node ∧ at0 to node ≤ 1000000000000 := hto _ (by simp [hni])
    have w5 : IntKind.i64.wrap (at0 to node - at0 to b) = at0 to node - at0 to b := wrap_id (by omega) (by omega)
    have ud := up_down down e e1
    have hn1 := hn.1
    have hnl : node < (to.length : Int) := by omega
    have hbl : b < (to.length : Int) := by omega
    simp only [go_sem, simprocAttr]
    cases q0 : isDown down (e / 2) with
    | true =>
      have q1 : isUp down e = false := by rw [ud, q0]; rfl
      simp only [go_sem, simprocAttr, w4]
      exact same (by rw [cond, q1]; rfl)
    | false =>
      have q1 : isUp down e = true := by rw [ud, q0]; rfl
      simp only [go_sem, simprocAttr, v2.1, x3]
      by_cases q2 : 0 ≤ at0 to b
      · simp only [go_sem, simprocAttr, q2, hn1, x1, rowAt_get g1, hq, n6, x4, w5, v2.1, x3, n4, x2]
        by_cases q3 : at0 to node - at0 to b = g.metric e
        · simp only [go_sem, simprocAttr, q3, n4, x2]
          have ct : nextCond g down to node e = true := by
            have this : at0 to node = at0 to b + g.metric e := by omega
            rw [cond, q1, decide_eq_true q2, decide_eq_true this]; rfl
          intro id2 hid2
          simp only [go_sem, simprocAttr]
          have hlenf := List.length_filter_le (nextCond g down to node) ((g.out node).take j)
          have hlent : ((g.out node).take j).length ≤ j := by simp; omega
          refine acc_append (acc.fresh hid2 _) (by simp only [ints_len, List.length_cons, List.length_nil]; omega) (by simp only [ints_len, List.length_cons, List.length_nil]; omega) fun v' σ' k1 k2 => ?_
          simp only [go_sem, simprocAttr, w4]
          refine back_of _ ?_ ⟨j + 1, v', by omega, rfl, rfl, ?_, ?_⟩
          · omega
          · rw [k2 gid (by simp), get_fresh hid2 (by rw [g1]; rfl), g1]
          · rw [htake, ct, if_pos rfl, ints_app]
            exact k1.less (by simp)
        · simp only [go_sem, simprocAttr, q3, w4]
          refine same ?_
          have this : ¬ at0 to node = at0 to b + g.metric e := by omega
          rw [cond, q1, decide_eq_false this, Bool.and_false, Bool.and_false]
      · simp only [go_sem, simprocAttr, q2, w4]
        refine same ?_
        rw [cond, q1, decide_eq_false q2, Bool.false_and, Bool.and_false]
  · simp only [go_sem, simprocAttr]
    have e : j = (g.out node).length := by omega
    subst e
    rw [List.take_length] at acc
    rw [fin]
    exact acc_out acc (ints_sc _)
end Go.Proofs

set_option linter.unusedSimpArgs false
set_option linter.unusedVariables false
namespace Go.Proofs
open Go.Ab

theorem same_ok (a b : List Int) (ha : a.length < 1000000000) : PGood Try.prog 34 [.lst (ints a), .lst (ints b)] (.b (decide (a = b))) := by
  refine pgood_of_out 1 (good_of_wp isF34 (Nat.le_refl _) ?_)
  unfold ac34
  simp only [go_sem, simprocAttr]
  by_cases hl : (a.length : Int) = b.length
  case neg =>
    simp only [go_sem, simprocAttr, hl]
    have e : ¬ a = b := fun e => hl (by rw [e])
    rw [decide_eq_false e]
    exact out_sc
  simp only [go_sem, simprocAttr, hl]
  refine loop_rule (fun m fr σ => ∃ (i : Nat), i ≤ a.length ∧ m = a.length - i ∧ fr = [(0, .lst (ints a)), (1, .lst (ints b)), (5, .i i)] ∧ a.take i = b.take i) _ ⟨0, by omega, rfl, rfl, rfl⟩ ?_
  rintro m fr σ ⟨i, hi, rfl, rfl, ht⟩
  simp only [go_sem, simprocAttr, hl]
  refine .intro (fun h => ?_) (fun h => ?_)
  · have hia : i < a.length := by omega
    have hib : i < b.length := by omega
    have x1 : (ints a)[i]? = some [.sc (.int .i64 a[i])] := ints_get (List.getElem?_eq_getElem hia)
    have x2 : (ints b)[i]? = some [.sc (.int .i64 b[i])] := ints_get (List.getElem?_eq_getElem hib)
    have n1 : (0 : Int) ≤ i := by omega
    have w4 : IntKind.i64.wrap ((i : Int) + 1) = ((i + 1 : Nat) : Int) := by rw [wrap_id (by omega) (by omega)]; rfl
    have t1 : a.take (i + 1) = a.take i ++ [a[i]] := List.take_succ_eq_append_getElem hia
    have t2 : b.take (i + 1) = b.take i ++ [b[i]] := List.take_succ_eq_append_getElem hib
    generalize ga : a[i] = u at *
    generalize gb : b[i] = v at *
    simp only [go_sem, simprocAttr]
    unfold op34_17
    simp only [go_sem, simprocAttr, x1, x2, n1]
    by_cases huv : u = v
    · subst huv
      simp only [go_sem, simprocAttr, w4]
      exact back_of _ (by omega) ⟨i + 1, by omega, rfl, rfl, by rw [t1, t2, ht]⟩
    · simp only [go_sem, simprocAttr, huv]
      have e : ¬ a = b := fun e => huv (by subst e; rw [← ga, ← gb])
      rw [decide_eq_false e]
      exact out_sc
  · simp only [go_sem, simprocAttr]
    have e : a = b := by
      have e1 : i = a.length := by omega
      subst e1
      rw [List.take_length, List.take_of_length_le (by omega)] at ht
      exact ht
    rw [decide_eq_true e]
    exact out_sc
end Go.Proofs

set_option linter.unusedSimpArgs false
set_option linter.unusedVariables false
namespace Go.Proofs
open Go.Ab

theorem links_sc (l : List Lk) : ∀ y ∈ l.map Lk.row, ∀ c ∈ y, ∃ v, c = .sc v := by
  intro y hy c hc
  simp only [List.mem_map] at hy
  obtain ⟨k, _, rfl⟩ := hy
  simp only [Lk.row, List.mem_cons, List.mem_nil_iff, or_false] at hc
  rcases hc with rfl | rfl | rfl | rfl <;> exact ⟨_, rfl⟩
theorem links_len (l : List Lk) : (l.map Lk.row).all (·.length == 4) = true := by simp [Lk.row]
theorem ints_all (l : List Int) : (ints l).all (·.length == 1) = true := by simp [ints]

theorem clone_links_ok (ls : List Lk) (h : ls.length ≤ 1000000) : PGood Try.prog 36 [.lst (ls.map Lk.row)] (.lst (ls.map Lk.row)) := by
  refine pgood_of_out 3 (good_of_wp isF36 (Nat.le_refl _) ?_)
  unfold ac36
  have hall := links_len ls
  have hsc := links_sc ls
  have hlen : (ls.map Lk.row).length ≤ 1000000 := by simpa [ints] using h
  generalize ls.map Lk.row = xs at *
  have key : ∀ (id : Nat) (σ : Store) (K : AVal → Store → Prop), σ.get id = none → (∀ v' σ', Acc σ' 4 v' xs [] → K v' σ') → wpRes Try.prog (appendA (σ.set id (Obj.row 0 false 4 [])) 4 32 (AVal.sl id 0 0 0 4) xs) K (σ.set id (Obj.row 0 false 4 [])) := fun id σ K hid hK => by
    have a0 : Acc (σ.set id (Obj.row 0 false 4 [])) 4 (AVal.sl id 0 0 0 4) [] [] := acc_new (rows := []) alive_nil hid
    refine acc_append a0 (by simp only [List.length_nil]; omega) (by simp only [List.length_nil]; omega) fun v' σ' k1 k2 => hK v' σ' (by simpa using k1)
  cases xs with
  | nil =>
    simp only [go_sem, simprocAttr]
    refine ⟨out_nils, ?_⟩
    intro id hid
    simp only [go_sem, simprocAttr, List.all_nil]
    refine key id _ _ hid fun v' σ' k1 => ?_
    simp only [go_sem, simprocAttr]
    exact acc_out k1 hsc
  | cons x r =>
    simp only [go_sem, simprocAttr]
    intro id hid
    simp only [go_sem, simprocAttr, hall]
    refine key id _ _ hid fun v' σ' k1 => ?_
    simp only [go_sem, simprocAttr]
    exact acc_out k1 hsc
theorem clone_ints_ok (l : List Int) (h : l.length ≤ 1000000) : PGood Try.prog 89 [.lst (ints l)] (.lst (ints l)) := by
  refine pgood_of_out 3 (good_of_wp isF89 (Nat.le_refl _) ?_)
  unfold ac89
  have hall := ints_all l
  have hsc := ints_sc l
  have hlen : (ints l).length ≤ 1000000 := by simpa [ints] using h
  generalize ints l = xs at *
  have key : ∀ (id : Nat) (σ : Store) (K : AVal → Store → Prop), σ.get id = none → (∀ v' σ', Acc σ' 1 v' xs [] → K v' σ') → wpRes Try.prog (appendA (σ.set id (Obj.row 0 false 1 [])) 1 8 (AVal.sl id 0 0 0 1) xs) K (σ.set id (Obj.row 0 false 1 [])) := fun id σ K hid hK => by
    have a0 : Acc (σ.set id (Obj.row 0 false 1 [])) 1 (AVal.sl id 0 0 0 1) [] [] := acc_new (rows := []) alive_nil hid
    refine acc_append a0 (by simp only [List.length_nil]; omega) (by simp only [List.length_nil]; omega) fun v' σ' k1 k2 => hK v' σ' (by simpa using k1)
  cases xs with
  | nil =>
    simp only [go_sem, simprocAttr]
    refine ⟨out_nils, ?_⟩
    intro id hid
    simp only [go_sem, simprocAttr, List.all_nil]
    refine key id _ _ hid fun v' σ' k1 => ?_
    simp only [go_sem, simprocAttr]
    exact acc_out k1 hsc
  | cons x r =>
    simp only [go_sem, simprocAttr]
    intro id hid
    simp only [go_sem, simprocAttr, hall]
    refine key id _ _ hid fun v' σ' k1 => ?_
    simp only [go_sem, simprocAttr]
    exact acc_out k1 hsc
end Go.Proofs

set_option linter.unusedSimpArgs false
set_option linter.unusedVariables false
namespace Go.Proofs
open Go.Ab

structure Sg where
  e : Bool
  t : Int
def Sg.row (s : Sg) : List AVal := [.sc (.bool s.e), .sc (.int .i64 s.t)]
def Sg.val (s : Sg) : AVal := .agg s.row

def wnext (g : Gr) (t f : Int) : List Int := nextOf g [] (spfFrom g [] t) f
def nextRow (g : Gr) (t : Int) (k : Nat) : List (List AVal) := (List.range k).map fun (f : Nat) => [.lst (ints (wnext g t f))]
def nextRowsT (g : Gr) (k : Nat) : List (List AVal) := (List.range k).map fun (t : Nat) => [.lst (nextRow g t g.n.toNat)]
def toRowsT (g : Gr) (k : Nat) : List (List AVal) := (List.range k).map fun (t : Nat) => [.lst (ints (spfFrom g [] t))]
def Gr.tab (g : Gr) : AVal := .iptr [.sc (.int .i64 g.n), .lst (g.ls.map Lk.row), .lst (toRowsT g g.n.toNat), .lst (nextRowsT g g.n.toNat)] 0

theorem tis_ok (g : Gr) (x : Int) : PGood Try.prog 88 [g.tab, .i x] (.b (decide (0 ≤ x ∧ x < g.n))) := by
  refine pgood_of_out 3 (good_of_wp isF88 (Nat.le_refl _) ?_)
  unfold ac88
  simp only [go_sem, simprocAttr, Gr.tab]
  refine good_imm (is_ok g.n _ x) rfl ?_
  simp only [go_sem, simprocAttr]
  exact out_sc

theorem tgraph_ok (g : Gr) (hg : g.ls.length ≤ 1000000) : PGood Try.prog 27 [g.tab] g.val := by
  refine pgood_of_out 3 (good_of_wp isF27 (Nat.le_refl _) ?_)
  unfold ac27
  simp only [go_sem, simprocAttr, Gr.tab]
  intro id hid
  simp only [go_sem, simprocAttr]
  unfold op27_6
  simp only [go_sem, simprocAttr]
  refine goodD_imm (clone_links_ok g.ls hg) rfl ?_
  simp only [go_sem, simprocAttr]
  exact out_imm rfl

def wdist (g : Gr) (f t : Int) : Int := if (0 ≤ f ∧ f < g.n) ∧ (0 ≤ t ∧ t < g.n) then at0 (spfFrom g [] t) f else -1
def wnextOf (g : Gr) (f t : Int) : List Int := if (0 ≤ f ∧ f < g.n) ∧ (0 ≤ t ∧ t < g.n) then wnext g t f else []
theorem range_row {α : Type} (F : Nat → α) {k : Nat} {x : Int} (h0 : 0 ≤ x) (h1 : x.toNat < k) : ((List.range k).map F)[x.toNat]? = some (F x.toNat) := by simp [h1]

theorem wnext_len (g : Gr) (t f : Int) : (wnext g t f).length ≤ 2 * g.ls.length := by
  unfold wnext nextOf
  split
  · exact Nat.le_trans (List.length_filter_le _ _) (g.out_len _)
  · simp
theorem tnext_ok (g : Gr) (f t : Int) (hg : g.ls.length ≤ 120) : PGood Try.prog 70 [g.tab, .i f, .i t] (.lst (ints (wnextOf g f t))) := by
  refine pgood_of_out 3 (good_of_wp isF70 (Nat.le_refl _) ?_)
  unfold ac70
  simp only [go_sem, simprocAttr]
  refine good_imm (tis_ok g f) rfl ?_
  simp only [go_sem, simprocAttr]
  by_cases h1 : 0 ≤ f ∧ f < g.n
  · simp only [go_sem, simprocAttr, h1]
    refine good_imm (tis_ok g t) rfl ?_
    by_cases h2 : 0 ≤ t ∧ t < g.n
    · have ht : t.toNat < g.n.toNat := by omega
      have hf : f.toNat < g.n.toNat := by omega
      have x1 : (nextRowsT g g.n.toNat)[t.toNat]? = some [.lst (nextRow g t.toNat g.n.toNat)] := range_row _ h2.1 ht
      have x2 : (nextRow g t.toNat g.n.toNat)[f.toNat]? = some [.lst (ints (wnext g t.toNat f.toNat))] := range_row _ h1.1 hf
      have e1 : ((t.toNat : Nat) : Int) = t := by omega
      have e2 : ((f.toNat : Nat) : Int) = f := by omega
      rw [e1, e2] at x2
      rw [e1] at x1
      simp only [go_sem, simprocAttr, h1, h2, Gr.tab, x1, x2]
      have e3 : wnextOf g f t = wnext g t f := if_pos ⟨h1, h2⟩
      rw [e3]
      refine good_imm (clone_ints_ok _ ?_) rfl ?_
      · have := wnext_len g t f
        omega
      · simp only [go_sem, simprocAttr]
        exact out_imm rfl
    · simp only [go_sem, simprocAttr, h1, h2]
      have e3 : wnextOf g f t = [] := if_neg fun e => h2 e.2
      rw [e3]
      exact out_nils
  · simp only [go_sem, simprocAttr, h1]
    have e3 : wnextOf g f t = [] := if_neg fun e => h1 e.1
    rw [e3]
    exact out_nils

theorem tdist_ok (g : Gr) (hok : g.Ok) (f t : Int) : PGood Try.prog 84 [g.tab, .i f, .i t] (.i (wdist g f t)) := by
  refine pgood_of_out 3 (good_of_wp isF84 (Nat.le_refl _) ?_)
  unfold ac84
  simp only [go_sem, simprocAttr]
  refine good_imm (tis_ok g f) rfl ?_
  simp only [go_sem, simprocAttr]
  by_cases h1 : 0 ≤ f ∧ f < g.n
  · simp only [go_sem, simprocAttr, h1]
    refine good_imm (tis_ok g t) rfl ?_
    by_cases h2 : 0 ≤ t ∧ t < g.n
    · have ht : t.toNat < g.n.toNat := by omega
      have hf : f.toNat < g.n.toNat := by omega
      have x1 : (toRowsT g g.n.toNat)[t.toNat]? = some [.lst (ints (spfFrom g [] t.toNat))] := range_row _ h2.1 ht
      have e1 : ((t.toNat : Nat) : Int) = t := by omega
      rw [e1] at x1
      have x2 : (ints (spfFrom g [] t))[f.toNat]? = some [.sc (.int .i64 (at0 (spfFrom g [] t) f))] := by
        have hl := (spfFrom_dist hok (down := []) h2).len
        exact ints_get (by unfold at0; simp [hl, hf])
      simp only [go_sem, simprocAttr, h1, h2, Gr.tab, x1, x2]
      have e3 : wdist g f t = at0 (spfFrom g [] t) f := if_pos ⟨h1, h2⟩
      rw [e3]
      exact out_sc
    · simp only [go_sem, simprocAttr, h1, h2]
      have e3 : wdist g f t = -1 := if_neg fun e => h2 e.2
      rw [e3]
      exact out_sc
  · simp only [go_sem, simprocAttr, h1]
    have e3 : wdist g f t = -1 := if_neg fun e => h1 e.1
    rw [e3]
    exact out_sc

def Gr.isSeg (g : Gr) (s : Sg) : Bool := if s.e then decide (0 ≤ s.t ∧ s.t < 2 * (g.ls.length : Int)) else decide (0 ≤ s.t ∧ s.t < g.n)
theorem fib_is_ok (g : Gr) (s : Sg) (hg : g.ls.length ≤ 1000000) : PGood Try.prog 69 [g.val, s.val] (.b (g.isSeg s)) := by
  refine pgood_of_out 3 (good_of_wp isF69 (Nat.le_refl _) ?_)
  unfold ac69
  obtain ⟨e, t⟩ := s
  simp only [go_sem, simprocAttr, Gr.val, Sg.val, Sg.row]
  intro id hid
  simp only [go_sem, simprocAttr]
  intro id2 hid2
  have f1 := fun o => rowAt_fresh (o := o) hid2 (j := id) (ver := 0) (by rw [rowAt_self]; rfl)
  have hw : IntKind.i64.wrap (2 * (g.ls.length : Int)) = 2 * (g.ls.length : Int) := wrap_id (by omega) (by omega)
  simp only [go_sem, simprocAttr, f1]
  cases e with
  | true =>
    simp only [go_sem, simprocAttr]
    refine .intro (fun h => ?_) (fun h => ?_)
    · simp only [go_sem, simprocAttr, h, f1, hw]
      refine sub_out out_sc ?_
      simp [Gr.isSeg, h]
    · simp only [go_sem, simprocAttr, h, f1, hw]
      refine sub_out out_sc ?_
      simp [Gr.isSeg, h]
  | false =>
    simp only [go_sem, simprocAttr, f1]
    refine good_imm (is_ok g.n _ t) rfl ?_
    simp only [go_sem, simprocAttr]
    exact out_sc
end Go.Proofs

set_option linter.unusedSimpArgs false
set_option linter.unusedVariables false
namespace Go.Proofs
open Go.Ab

def newOf (g : Gr) : AVal := if g.check.2 = 0 then .tup [g.tab, .i 0] else .tup [.nilp, .i g.check.2]
theorem nextRow_succ (g : Gr) (t : Int) (k : Nat) : nextRow g t (k + 1) = nextRow g t k ++ [[.lst (ints (wnext g t k))]] := by simp [nextRow, List.range_succ]
theorem nextRowsT_succ (g : Gr) (k : Nat) : nextRowsT g (k + 1) = nextRowsT g k ++ [[.lst (nextRow g k g.n.toNat)]] := by simp [nextRowsT, List.range_succ]
theorem toRowsT_succ (g : Gr) (k : Nat) : toRowsT g (k + 1) = toRowsT g k ++ [[.lst (ints (spfFrom g [] k))]] := by simp [toRowsT, List.range_succ]
theorem nextRow_len (g : Gr) (t : Int) (k : Nat) : (nextRow g t k).length = k := by simp [nextRow]
theorem nextRowsT_len (g : Gr) (k : Nat) : (nextRowsT g k).length = k := by simp [nextRowsT]
theorem toRowsT_len (g : Gr) (k : Nat) : (toRowsT g k).length = k := by simp [toRowsT]

def NewInv (g : Gr) (gid tid : Nat) (m : Nat) (fr : Fr) (σ : Store) : Prop := ∃ (i : Nat) (v1 v2 : AVal), i ≤ g.n.toNat ∧ m = g.n.toNat - i ∧ fr = [(1, .ptr gid 0 0 0), (6, .ptr tid 0 0 0), (28, .i g.n), (29, .i i)] ∧ gid ≠ tid ∧
      σ.get gid = some (.row 0 false 2 [[.sc (.int .i64 g.n), .lst (g.ls.map Lk.row)]]) ∧ σ.get tid = some (.row 0 false 4 [[.sc (.int .i64 g.n), .lst (g.ls.map Lk.row), v1, v2]]) ∧
      Two σ 1 v1 (toRowsT g i) 1 v2 (nextRowsT g i) [tid, gid]
theorem new_fin {g : Gr} {gid tid i : Nat} {v1 v2 v w1 w2 : AVal} {σ' σe : Store} (hi : i + 1 ≤ g.n.toNat) (hne : gid ≠ tid)
    (k6 : Acc σ' 1 v (nextRow g i g.n.toNat) (objs v1 ++ (objs v2 ++ [tid, gid]))) (h2 : Two σe 1 w1 (toRowsT g i ++ [[.lst (ints (spfFrom g [] i))]]) 1 w2 (nextRowsT g i ++ [[v]]) (objs v ++ [tid, gid]))
    (hg : σe.get gid = some (.row 0 false 2 [[.sc (.int .i64 g.n), .lst (g.ls.map Lk.row)]])) (hv : ∀ x ∈ objs v, σe.get x = σ'.get x) :
    Back (NewInv g gid tid) (g.n.toNat - i) [(1, .ptr gid 0 0 0), (6, .ptr tid 0 0 0), (28, .i g.n), (29, .i ((i + 1 : Nat) : Int))] (σe.set tid (.row 0 false 4 [[.sc (.int .i64 g.n), .lst (g.ls.map Lk.row), w1, w2]])) := by
  have h3 := h2.other (id := tid) (by simp) (.row 0 false 4 [[.sc (.int .i64 g.n), .lst (g.ls.map Lk.row), w1, w2]])
  have nv : ∀ j ∈ objs v, j ∉ [tid, gid] := fun j hj hm => k6.objs_not j hj (by simp only [List.mem_append]; exact .inr (.inr hm))
  generalize hτ : σe.set tid (.row 0 false 4 [[.sc (.int .i64 g.n), .lst (g.ls.map Lk.row), w1, w2]]) = τ at *
  have gt : τ.get tid = some (.row 0 false 4 [[.sc (.int .i64 g.n), .lst (g.ls.map Lk.row), w1, w2]]) := by rw [← hτ]; simp
  have gg : τ.get gid = some (.row 0 false 2 [[.sc (.int .i64 g.n), .lst (g.ls.map Lk.row)]]) := by rw [← hτ, Store.get_set_ne _ _ hne]; exact hg
  have hv2 : Acc τ 1 v (nextRow g i g.n.toNat) [] := k6.keep (fun j hj => by
    rw [← hτ, Store.get_set_ne _ _ (fun e => nv j hj (by simp [e])), hv j hj]) alive_nil (fun _ _ h => by cases h)
  obtain ⟨σ0, q1, q2, q3⟩ := weak_put (fr := [(1, .ptr gid 0 0 0), (6, .ptr tid 0 0 0), (28, .i g.n), (29, .i ((i + 1 : Nat) : Int))]) (m := 2) (others := objs w1 ++ [tid, gid]) hv2 (h3.2.less fun x hx => by
    simp only [List.mem_append] at hx ⊢
    rcases hx with hx | hx | hx
    · exact .inr (.inl hx)
    · exact .inl hx
    · exact .inr (.inr hx)) (fun y hy c hc => by
      simp only [nextRow, List.mem_map] at hy
      obtain ⟨k, _, rfl⟩ := hy
      simp at hc
      subst hc; rfl)
  have n2 : ∀ j ∈ [tid, gid], j ∉ objs v ∧ j ∉ objs w2 := fun j hj => ⟨fun hm => nv j hm hj, fun hm => h3.2.objs_not j hm (by simp only [List.mem_append]; exact .inr (.inr hj))⟩
  have n1 : ∀ j ∈ objs w1, j ∉ objs v ∧ j ∉ objs w2 := fun j hj => ⟨fun hm => h3.1.objs_not j hj (by simp only [List.mem_append]; exact .inr (.inl hm)), fun hm => h3.1.objs_not j hj (by simp only [List.mem_append]; exact .inl hm)⟩
  refine back_weak (g.n.toNat - (i + 1)) (by omega) _ σ0 q1 ⟨i + 1, w1, w2, hi, rfl, rfl, hne, ?_, ?_, ?_, ?_⟩
  · rw [q3 gid (n2 gid (by simp)).1 (n2 gid (by simp)).2, gg]
  · rw [q3 tid (n2 tid (by simp)).1 (n2 tid (by simp)).2, gt]
  · rw [toRowsT_succ]
    refine h3.1.keep (fun j hj => q3 j (n1 j hj).1 (n1 j hj).2) (q2.objs_alive.app (q2.1.right.right)) fun j hj hm => ?_
    rcases List.mem_append.1 hm with hm | hm
    · exact (n1 j hj).2 hm
    · exact h3.1.objs_not j hj (by simp only [List.mem_append]; exact .inr (.inr hm))
  · rw [nextRowsT_succ]
    exact q2.less fun x hx => List.mem_append_right _ hx
structure Lf (g : Gr) (gid tid : Nat) (v1 v2 v : AVal) (σ' : Store) (E : List (Nat × Ab.Obj)) (σ : Store) (w1 : AVal) (r1 : List (List AVal)) (w2 : AVal) (r2 : List (List AVal)) : Prop where
  two : Two σ 1 w1 r1 1 w2 r2 (E.map (·.1) ++ (objs v ++ [tid, gid]))
  hg : σ.get gid = some (.row 0 false 2 [[.sc (.int .i64 g.n), .lst (g.ls.map Lk.row)]])
  ht : σ.get tid = some (.row 0 false 4 [[.sc (.int .i64 g.n), .lst (g.ls.map Lk.row), v1, v2]])
  hv : ∀ x ∈ objs v, σ.get x = σ'.get x
  he : ∀ p ∈ E, σ.get p.1 = some p.2
section
variable {g : Gr} {gid tid : Nat} {v1 v2 v : AVal} {σ' σ σ2 : Store} {w1 w2 w1' w2' : AVal} {r1 r2 r1' r2' ys : List (List AVal)} {E : List (Nat × Ab.Obj)}
theorem Lf.step (h : Lf g gid tid v1 v2 v σ' E σ w1 r1 w2 r2)
    (h2 : Two σ2 1 w1' r1' 1 w2' r2' (E.map (·.1) ++ (objs v ++ [tid, gid]))) (hs : ∀ j ∈ E.map (·.1) ++ (objs v ++ [tid, gid]), σ2.get j = σ.get j) : Lf g gid tid v1 v2 v σ' E σ2 w1' r1' w2' r2' :=
  ⟨h2, by rw [hs gid (by simp), h.hg], by rw [hs tid (by simp), h.ht], fun x hx => by rw [hs x (by simp [hx]), h.hv x hx], fun p hp => by rw [hs p.1 (List.mem_append_left _ (List.mem_map_of_mem hp)), h.he p hp]⟩
theorem Lf.fresh (h : Lf g gid tid v1 v2 v σ' E σ w1 r1 w2 r2) {id : Nat} (hid : σ.get id = none) (o : Ab.Obj) : Lf g gid tid v1 v2 v σ' ((id, o) :: E) (σ.set id o) w1 r1 w2 r2 := by
  have ha := h.two.1.1.right
  have hs : ∀ j ∈ E.map (·.1) ++ (objs v ++ [tid, gid]), (σ.set id o).get j = σ.get j := fun j hj => get_fresh hid (ha j hj)
  refine ⟨h.two.fresh hid o, by rw [hs gid (by simp), h.hg], by rw [hs tid (by simp), h.ht], fun x hx => by rw [hs x (by simp [hx]), h.hv x hx], fun p hp => ?_⟩
  rcases List.mem_cons.1 hp with rfl | hp
  · simp
  · rw [hs p.1 (List.mem_append_left _ (List.mem_map_of_mem hp)), h.he p hp]
theorem Lf.app1 (h : Lf g gid tid v1 v2 v σ' E σ w1 r1 w2 r2) {K : AVal → Store → Prop} (hl : r1.length + ys.length ≤ 1000000)
    (hK : ∀ w σ2, Lf g gid tid v1 v2 v σ' E σ2 w (r1 ++ ys) w2 r2 → K w σ2) : wpResD Try.prog (appendA σ 1 24 w1 ys) K σ := by
  rw [resD_append]
  refine acc_append h.two.1 (by omega) (by omega) fun w σ2 u1 u2 => hK w σ2 (h.step (h.two.first u1 u2) fun j hj => u2 j (List.mem_append_right _ hj))
theorem Lf.app2 (h : Lf g gid tid v1 v2 v σ' E σ w1 r1 w2 r2) {K : AVal → Store → Prop} (hl : r2.length + ys.length ≤ 1000000)
    (hK : ∀ w σ2, Lf g gid tid v1 v2 v σ' E σ2 w1 r1 w (r2 ++ ys) → K w σ2) : wpResD Try.prog (appendA σ 1 24 w2 ys) K σ := by
  rw [resD_append]
  refine acc_append h.two.2 (by omega) (by omega) fun w σ2 u1 u2 => hK w σ2 (h.step (h.two.swap.first u1 u2).swap fun j hj => u2 j (List.mem_append_right _ hj))
end
theorem mild_spf {g : Gr} (hok : g.Ok) {down : List Bool} {x : Int} (hx : 0 ≤ x ∧ x < g.n) : Mild (spfFrom g down x) := by
  rw [spf_eq_ref]
  obtain ⟨hd, hs⟩ := refFrom_spec hok (down := down) hx
  obtain ⟨_, h1, h2, _⟩ := hok
  have hl := hd.len
  have hle := neg_le (refFrom g down x)
  intro y hy
  rcases hs y hy with h | ⟨h3, h4⟩
  · omega
  · exact ⟨by omega, by omega⟩
theorem tnew_ok (g : Gr) : PGood Try.prog 19 [g.val] (newOf g) := by
  refine pgood_of_out 6 (good_of_wp isF19 (Nat.le_refl _) ?_)
  unfold ac19
  simp only [go_sem, simprocAttr, Gr.val]
  intro gid hgid
  simp only [go_sem, simprocAttr]
  refine good_imm (check_ok g) rfl ?_
  simp only [go_sem, simprocAttr]
  have hck := g.check_ok
  by_cases h0 : g.check.2 = 0
  · have hok : g.Ok := hck.1 h0
    obtain ⟨hl, hn1, hn2, _⟩ := id hok
    simp only [go_sem, simprocAttr, h0]
    unfold op19_19
    simp only [go_sem, simprocAttr]
    refine goodD_imm (clone_links_ok g.ls (by omega)) rfl ?_
    simp only [go_sem, simprocAttr]
    intro tid htid
    have f1 := fun o => rowAt_fresh (o := o) htid (j := gid) (ver := 0) (by rw [rowAt_self]; rfl)
    simp only [go_sem, simprocAttr, f1]
    refine loop_rule (NewInv g gid tid) g.n.toNat ?_ ?_
    · have hne : gid ≠ tid := fun e => by rw [e] at hgid; subst e; simp at htid
      refine ⟨0, .nils, .nils, by omega, rfl, rfl, hne, ?_, ?_, ?_⟩
      · rw [Store.get_set_ne _ _ hne]; simp
      · simp
      · have al : Alive ((Store.empty.set gid (.row 0 false 2 [[.sc (.int .i64 g.n), .lst (g.ls.map Lk.row)]])).set tid (.row 0 false 4 [[.sc (.int .i64 g.n), .lst (g.ls.map Lk.row), .nils, .nils]])) [tid, gid] := by
          refine alive_cons (Store.get_set_self _ _ _) (alive_cons (j := gid) (o := .row 0 false 2 [[.sc (.int .i64 g.n), .lst (g.ls.map Lk.row)]]) ?_ alive_nil)
          rw [Store.get_set_ne _ _ hne]; simp
        exact ⟨acc_nils al, acc_nils al⟩
    · rintro m fr σ ⟨i, v1, v2, h1, rfl, rfl, h2, h3, h4, h5⟩
      have r1 := rowAt_get h3
      have r2 := rowAt_get h4
      have hn : ((g.n.toNat : Nat) : Int) = g.n := by omega
      simp only [go_sem, simprocAttr]
      refine .intro (fun h => ?_) (fun h => ?_)
      · simp only [go_sem, simprocAttr, r2]
        refine good_outi (outL3 (out_imm rfl) out_nils out_sc) rfl (spf_to_ok g [] i) ?_
        simp only [go_sem, simprocAttr, r1]
        refine loop_rule (fun m' fr σ' => ∃ (j : Nat) (v : AVal), j ≤ g.n.toNat ∧ m' = g.n.toNat - j ∧ fr = [(1, .ptr gid 0 0 0), (6, .ptr tid 0 0 0), (8, .lst (ints (spfFrom g [] i))), (9, v), (28, .i g.n), (29, .i i), (39, .i g.n), (40, .i j)] ∧
          σ'.get gid = some (.row 0 false 2 [[.sc (.int .i64 g.n), .lst (g.ls.map Lk.row)]]) ∧ σ'.get tid = some (.row 0 false 4 [[.sc (.int .i64 g.n), .lst (g.ls.map Lk.row), v1, v2]]) ∧
          Two σ' 1 v1 (toRowsT g i) 1 v2 (nextRowsT g i) [tid, gid] ∧ Acc σ' 1 v (nextRow g i j) (objs v1 ++ (objs v2 ++ [tid, gid]))) g.n.toNat
          ⟨0, .nils, by omega, rfl, rfl, h3, h4, h5, acc_nils (h5.2.1.left.app h5.1.1)⟩ ?_
        rintro m' fr σ' ⟨j, v, k1, rfl, rfl, k3, k4, k5, k6⟩
        have s1 := rowAt_get k3
        have s2 := rowAt_get k4
        simp only [go_sem, simprocAttr]
        refine .intro (fun h6 => ?_) (fun h6 => ?_)
        · simp only [go_sem, simprocAttr, s2]
          refine good_outi (outL4 (out_imm rfl) out_nils (out_imm rfl) out_sc) rfl (spf_next_ok g [] _ j (mild_spf hok (by omega))) ?_
          simp only [go_sem, simprocAttr]
          intro id2 hid2
          simp only [go_sem, simprocAttr]
          refine acc_append (k6.fresh hid2 _) (by simp only [nextRow_len, List.length_cons, List.length_nil]; omega) (by simp only [nextRow_len, List.length_cons, List.length_nil]; omega) fun v' σ2 q1 q2 => ?_
          have hw : IntKind.i64.wrap ((j : Int) + 1) = ((j + 1 : Nat) : Int) := by rw [wrap_id (by omega) (by omega)]; rfl
          simp only [go_sem, simprocAttr, hw]
          have q3 : ∀ x ∈ objs v1 ++ (objs v2 ++ [tid, gid]), σ2.get x = σ'.get x := fun x hx => by
            rw [q2 x (List.mem_cons_of_mem _ hx), get_fresh hid2 (k6.1 x hx)]
          refine back_of _ ?_ ⟨j + 1, v', by omega, rfl, rfl, ?_, ?_, k5.keep q3, ?_⟩
          · omega
          · rw [q3 gid (by simp), k3]
          · rw [q3 tid (by simp), k4]
          · rw [nextRow_succ]
            exact q1.less fun x hx => List.mem_cons_of_mem _ hx
        · simp only [go_sem, simprocAttr]
          have ej : j = g.n.toNat := by omega
          subst ej
          refine wp_tree (.split 8 12 (.split 8 14 (.leaf [0, 1, 2, 3, 4, 5, 6, 7, 8, 9, 10, 11, 12, 13, 14, 15, 16, 17, 18, 19, 20, 21]) (.leaf [0, 1, 2, 3, 4, 5, 6, 7, 13, 14, 8, 9, 10, 11, 12, 15, 16, 17, 18, 19, 20, 21]))
            (.split 8 14 (.leaf [0, 1, 2, 3, 4, 5, 6, 7, 9, 10, 11, 12, 8, 13, 14, 15, 16, 17, 18, 19, 20, 21]) (.leaf [0, 1, 2, 3, 4, 5, 6, 7, 9, 10, 11, 12, 13, 14, 8, 15, 16, 17, 18, 19, 20, 21]))) (by kernel_rfl) (by kernel_rfl) ?_
          have hO : Two σ' 1 v1 (toRowsT g i) 1 v2 (nextRowsT g i) (objs v ++ [tid, gid]) := k5.more k6.objs_alive fun x hx => by
            have := k6.objs_not x hx
            simp only [List.mem_append, not_or] at this
            exact ⟨this.1, this.2.1⟩
          have L0 : Lf g gid tid v1 v2 v σ' [] σ' v1 (toRowsT g i) v2 (nextRowsT g i) := ⟨hO, k3, k4, fun _ _ => rfl, fun _ h => by cases h⟩
          have hw : IntKind.i64.wrap ((i : Int) + 1) = ((i + 1 : Nat) : Int) := by rw [wrap_id (by omega) (by omega)]; rfl
          have k0 := h2
          have kv := k6.known
          simp only [wpTree_split, wpTree_leaf]
          refine ⟨⟨?_, ?_⟩, ?_, ?_⟩
          · unfold op19_54
            simp only [go_sem, simprocAttr, pickO, List.filterMap_cons, List.filterMap_nil, s2]
            intro a1 ha1
            have L1 := L0.fresh ha1 (.row 0 false 1 [[.lst (ints (spfFrom g [] i))]])
            have r1 := rowAt_get L1.ht
            have e11 := rowAt_get (L1.he (a1, .row 0 false 1 [[.lst (ints (spfFrom g [] i))]]) (by simp))
            simp only [go_sem, simprocAttr, r1, kv, e11]
            refine L1.app1 (by simp only [toRowsT_len, nextRowsT_len, List.length_cons, List.length_nil]; omega) fun w1 σ2 L2 => ?_
            have r2 := rowAt_get L2.ht
            have e21 := rowAt_get (L2.he (a1, .row 0 false 1 [[.lst (ints (spfFrom g [] i))]]) (by simp))
            simp only [go_sem, simprocAttr, r2, kv, e21]
            intro a2 ha2
            have L3 := L2.fresh ha2 (.row 0 false 1 [[v]])
            have r3 := rowAt_get L3.ht
            have e31 := rowAt_get (L3.he (a1, .row 0 false 1 [[.lst (ints (spfFrom g [] i))]]) (by simp))
            have e32 := rowAt_get (L3.he (a2, .row 0 false 1 [[v]]) (by simp))
            simp only [go_sem, simprocAttr, r3, kv, e31, e32]
            refine L3.app2 (by simp only [toRowsT_len, nextRowsT_len, List.length_cons, List.length_nil]; omega) fun w2 σ4 L4 => ?_
            have r4 := rowAt_get L4.ht
            have e41 := rowAt_get (L4.he (a1, .row 0 false 1 [[.lst (ints (spfFrom g [] i))]]) (by simp))
            have e42 := rowAt_get (L4.he (a2, .row 0 false 1 [[v]]) (by simp))
            have kn1 := L4.two.1.known
            have kn2 := L4.two.2.known
            simp only [go_sem, simprocAttr, r4, kv, e41, e42, kn1, kn2, hw]
            exact new_fin (by omega) k0 k6 (L4.two.less fun x hx => List.mem_append_right _ hx) L4.hg L4.hv
          · unfold op19_54
            simp only [go_sem, simprocAttr, pickO, List.filterMap_cons, List.filterMap_nil, s2]
            intro a1 ha1
            have L1 := L0.fresh ha1 (.row 0 false 1 [[.lst (ints (spfFrom g [] i))]])
            have r1 := rowAt_get L1.ht
            have e11 := rowAt_get (L1.he (a1, .row 0 false 1 [[.lst (ints (spfFrom g [] i))]]) (by simp))
            simp only [go_sem, simprocAttr, r1, kv, e11]
            intro a2 ha2
            have L2 := L1.fresh ha2 (.row 0 false 1 [[v]])
            have r2 := rowAt_get L2.ht
            have e21 := rowAt_get (L2.he (a1, .row 0 false 1 [[.lst (ints (spfFrom g [] i))]]) (by simp))
            have e22 := rowAt_get (L2.he (a2, .row 0 false 1 [[v]]) (by simp))
            simp only [go_sem, simprocAttr, r2, kv, e21, e22]
            refine L2.app1 (by simp only [toRowsT_len, nextRowsT_len, List.length_cons, List.length_nil]; omega) fun w1 σ3 L3 => ?_
            have r3 := rowAt_get L3.ht
            have e31 := rowAt_get (L3.he (a1, .row 0 false 1 [[.lst (ints (spfFrom g [] i))]]) (by simp))
            have e32 := rowAt_get (L3.he (a2, .row 0 false 1 [[v]]) (by simp))
            simp only [go_sem, simprocAttr, r3, kv, e31, e32]
            refine L3.app2 (by simp only [toRowsT_len, nextRowsT_len, List.length_cons, List.length_nil]; omega) fun w2 σ4 L4 => ?_
            have r4 := rowAt_get L4.ht
            have e41 := rowAt_get (L4.he (a1, .row 0 false 1 [[.lst (ints (spfFrom g [] i))]]) (by simp))
            have e42 := rowAt_get (L4.he (a2, .row 0 false 1 [[v]]) (by simp))
            have kn1 := L4.two.1.known
            have kn2 := L4.two.2.known
            simp only [go_sem, simprocAttr, r4, kv, e41, e42, kn1, kn2, hw]
            exact new_fin (by omega) k0 k6 (L4.two.less fun x hx => List.mem_append_right _ hx) L4.hg L4.hv
          · unfold op19_54
            simp only [go_sem, simprocAttr, pickO, List.filterMap_cons, List.filterMap_nil, s2]
            intro a1 ha1
            have L1 := L0.fresh ha1 (.row 0 false 1 [[.lst (ints (spfFrom g [] i))]])
            have r1 := rowAt_get L1.ht
            have e11 := rowAt_get (L1.he (a1, .row 0 false 1 [[.lst (ints (spfFrom g [] i))]]) (by simp))
            simp only [go_sem, simprocAttr, r1, kv, e11]
            refine L1.app1 (by simp only [toRowsT_len, nextRowsT_len, List.length_cons, List.length_nil]; omega) fun w1 σ2 L2 => ?_
            have r2 := rowAt_get L2.ht
            have e21 := rowAt_get (L2.he (a1, .row 0 false 1 [[.lst (ints (spfFrom g [] i))]]) (by simp))
            simp only [go_sem, simprocAttr, r2, kv, e21]
            intro a2 ha2
            have L3 := L2.fresh ha2 (.row 0 false 1 [[v]])
            have r3 := rowAt_get L3.ht
            have e31 := rowAt_get (L3.he (a1, .row 0 false 1 [[.lst (ints (spfFrom g [] i))]]) (by simp))
            have e32 := rowAt_get (L3.he (a2, .row 0 false 1 [[v]]) (by simp))
            simp only [go_sem, simprocAttr, r3, kv, e31, e32]
            refine L3.app2 (by simp only [toRowsT_len, nextRowsT_len, List.length_cons, List.length_nil]; omega) fun w2 σ4 L4 => ?_
            have r4 := rowAt_get L4.ht
            have e41 := rowAt_get (L4.he (a1, .row 0 false 1 [[.lst (ints (spfFrom g [] i))]]) (by simp))
            have e42 := rowAt_get (L4.he (a2, .row 0 false 1 [[v]]) (by simp))
            have kn1 := L4.two.1.known
            have kn2 := L4.two.2.known
            simp only [go_sem, simprocAttr, r4, kv, e41, e42, kn1, kn2, hw]
            exact new_fin (by omega) k0 k6 (L4.two.less fun x hx => List.mem_append_right _ hx) L4.hg L4.hv
          · unfold op19_54
            simp only [go_sem, simprocAttr, pickO, List.filterMap_cons, List.filterMap_nil, s2]
            intro a1 ha1
            have L1 := L0.fresh ha1 (.row 0 false 1 [[.lst (ints (spfFrom g [] i))]])
            have r1 := rowAt_get L1.ht
            have e11 := rowAt_get (L1.he (a1, .row 0 false 1 [[.lst (ints (spfFrom g [] i))]]) (by simp))
            simp only [go_sem, simprocAttr, r1, kv, e11]
            intro a2 ha2
            have L2 := L1.fresh ha2 (.row 0 false 1 [[v]])
            have r2 := rowAt_get L2.ht
            have e21 := rowAt_get (L2.he (a1, .row 0 false 1 [[.lst (ints (spfFrom g [] i))]]) (by simp))
            have e22 := rowAt_get (L2.he (a2, .row 0 false 1 [[v]]) (by simp))
            simp only [go_sem, simprocAttr, r2, kv, e21, e22]
            refine L2.app1 (by simp only [toRowsT_len, nextRowsT_len, List.length_cons, List.length_nil]; omega) fun w1 σ3 L3 => ?_
            have r3 := rowAt_get L3.ht
            have e31 := rowAt_get (L3.he (a1, .row 0 false 1 [[.lst (ints (spfFrom g [] i))]]) (by simp))
            have e32 := rowAt_get (L3.he (a2, .row 0 false 1 [[v]]) (by simp))
            simp only [go_sem, simprocAttr, r3, kv, e31, e32]
            refine L3.app2 (by simp only [toRowsT_len, nextRowsT_len, List.length_cons, List.length_nil]; omega) fun w2 σ4 L4 => ?_
            have r4 := rowAt_get L4.ht
            have e41 := rowAt_get (L4.he (a1, .row 0 false 1 [[.lst (ints (spfFrom g [] i))]]) (by simp))
            have e42 := rowAt_get (L4.he (a2, .row 0 false 1 [[v]]) (by simp))
            have kn1 := L4.two.1.known
            have kn2 := L4.two.2.known
            simp only [go_sem, simprocAttr, r4, kv, e41, e42, kn1, kn2, hw]
            exact new_fin (by omega) k0 k6 (L4.two.less fun x hx => List.mem_append_right _ hx) L4.hg L4.hv
      · simp only [go_sem, simprocAttr]
        have ei : i = g.n.toNat := by omega
        subst ei
        have e : newOf g = .tup [g.tab, .i 0] := if_pos h0
        rw [e]
        have i1 : ∀ y ∈ toRowsT g g.n.toNat, ∀ c ∈ y, immA 3 c = true := fun y hy c hc => by
          simp only [toRowsT, List.mem_map] at hy
          obtain ⟨k, _, rfl⟩ := hy
          simp at hc
          subst hc; rfl
        have i2 : ∀ y ∈ nextRowsT g g.n.toNat, ∀ c ∈ y, immA 3 c = true := fun y hy c hc => by
          simp only [nextRowsT, List.mem_map] at hy
          obtain ⟨k, _, rfl⟩ := hy
          simp at hc
          subst hc; rfl
        refine out_tup2 (m := 5) (out_ptr (m := 4) r2 rfl (outL4 out_sc (out_imm rfl) (acc_out_imm h5.1 i1) (acc_out_imm h5.2 i2))) out_sc
  · simp only [go_sem, simprocAttr, h0]
    unfold newOf
    rw [if_neg h0]
    exact out_imm rfl
end Go.Proofs

set_option linter.unusedSimpArgs false
set_option linter.unusedVariables false
namespace Go.Proofs
open Go.Ab

def segs (l : List Sg) : List (List AVal) := l.map Sg.row
/-- A packet, but for what never changes. -/
structure Pk where
  l : List Sg
  es : List Int
  at_ : Int
  fin : Int
  ar : Int
  most : Int
structure Pw where
  g : Gr
  hash : Int
  down : List Bool
  strict : Bool
  depth : Int
def Pw.cells (w : Pw) (s : Pk) (ve : AVal) : List AVal := [w.g.tab, .sc (.int .i64 w.g.n), .lst (w.g.ls.map Lk.row), .lst (segs s.l), .sc (.int .i64 w.hash), .lst (bools w.down), .sc (.bool w.strict), .sc (.int .i64 w.depth), ve,
  .sc (.int .i64 s.at_), .sc (.int .i64 s.fin), .sc (.int .i64 s.ar), .sc (.int .i64 s.most)]
def Pw.val (w : Pw) (s : Pk) : AVal := .iptr (w.cells s (.lst (ints s.es))) 0

def segEnd (g : Gr) (x : Sg) : Int := if x.e then (g.ends x.t).2.1 else x.t
def labelBad (g : Gr) (x : Sg) (a : Int) : Bool := !g.isSeg x || (x.e && !decide ((g.ends x.t).1 = a))
def pickI (hash : Int) (k : Nat) : Nat := ((hash.tmod k + k).tmod k).toNat
def hopOf (w : Pw) (x : Sg) (a : Int) : Int × Bool :=
  if x.e then (x.t, true) else match (wnextOf w.g a x.t)[pickI w.hash (wnextOf w.g a x.t).length]? with
    | some e => (e, true)
    | none => (0, false)

theorem segs_all (l : List Sg) : (segs l).all (·.length == 2) = true := by simp [segs, Sg.row]
theorem end_ok (w : Pw) (s : Pk) (x : Sg) (r : List Sg) (hl : s.l = x :: r) (hx : x.t < 9223372036854775808) : PGood Try.prog 72 [w.val s] (.i (segEnd w.g x)) := by
  refine pgood_of_out 3 (good_of_wp isF72 (Nat.le_refl _) ?_)
  unfold ac72
  obtain ⟨e, t⟩ := x
  simp only [go_sem, simprocAttr, Pw.val, Pw.cells, hl, segs, List.map_cons, Sg.row]
  cases e with
  | false =>
    simp only [go_sem, simprocAttr]
    exact out_sc
  | true =>
    simp only [go_sem, simprocAttr]
    unfold op72_22
    simp only [go_sem, simprocAttr, Sg.row]
    refine goodD_imm (ends_ok w.g t hx) rfl ?_
    simp only [go_sem, simprocAttr]
    exact out_sc
theorem label_ok (w : Pw) (hok : w.g.Ok) (s : Pk) (x : Sg) (r : List Sg) (hl : s.l = x :: r) : PGood Try.prog 49 [w.val s] (.b (labelBad w.g x s.at_)) := by
  refine pgood_of_out 3 (good_of_wp isF49 (Nat.le_refl _) ?_)
  unfold ac49
  obtain ⟨e, t⟩ := x
  simp only [go_sem, simprocAttr, Pw.val, Pw.cells, hl, segs, List.map_cons, Sg.row]
  unfold op49_6
  simp only [go_sem, simprocAttr, Sg.row]
  refine goodD_imm (fib_is_ok w.g ⟨e, t⟩ (by have := hok.1; omega)) rfl ?_
  simp only [go_sem, simprocAttr]
  cases hs : w.g.isSeg ⟨e, t⟩ with
  | false =>
    simp only [go_sem, simprocAttr]
    refine sub_out out_sc ?_
    simp [labelBad, hs]
  | true =>
    simp only [go_sem, simprocAttr]
    have hb : t < 9223372036854775808 := by
      obtain ⟨q1, q2, q3, _⟩ := hok
      cases e <;> simp [Gr.isSeg] at hs <;> omega
    unfold op49_19
    simp only [go_sem, simprocAttr]
    refine goodD_imm (ends_ok w.g t hb) rfl ?_
    simp only [go_sem, simprocAttr]
    cases e with
    | false =>
      simp only [go_sem, simprocAttr]
      refine sub_out out_sc ?_
      simp [labelBad, hs]
    | true =>
      simp only [go_sem, simprocAttr]
      refine sub_out out_sc ?_
      simp [labelBad, hs]

theorem pickI_lt (hash : Int) {k : Nat} (hk : 0 < k) : 0 ≤ (hash.tmod k + k).tmod k ∧ (hash.tmod k + k).tmod k < k ∧ -(k : Int) < hash.tmod k ∧ hash.tmod k < k := by
  have h0 : (0 : Int) < k := by omega
  have h1 := Int.lt_tmod_of_pos hash h0
  have h2 := Int.tmod_lt_of_pos hash h0
  exact ⟨Int.tmod_nonneg _ (by omega), Int.tmod_lt_of_pos _ h0, h1, h2⟩
theorem hop_ok (w : Pw) (hok : w.g.Ok) (s : Pk) (x : Sg) (r : List Sg) (hl : s.l = x :: r) : PGood Try.prog 50 [w.val s] (.tup [.i (hopOf w x s.at_).1, .b (hopOf w x s.at_).2]) := by
  refine pgood_of_out 3 (good_of_wp isF50 (Nat.le_refl _) ?_)
  unfold ac50
  obtain ⟨e, t⟩ := x
  simp only [go_sem, simprocAttr, Pw.val, Pw.cells, hl, segs, List.map_cons, Sg.row]
  cases e with
  | true =>
    simp only [go_sem, simprocAttr]
    exact out_tup2 out_sc out_sc
  | false =>
    simp only [go_sem, simprocAttr]
    unfold op50_20
    simp only [go_sem, simprocAttr, Sg.row]
    refine goodD_imm (tnext_ok w.g s.at_ t hok.1) rfl ?_
    simp only [go_sem, simprocAttr]
    have hlen : (wnextOf w.g s.at_ t).length ≤ 240 := by
      unfold wnextOf
      split
      · have := wnext_len w.g t s.at_
        have := hok.1
        omega
      · simp
    have eh : hopOf w ⟨false, t⟩ s.at_ = match (wnextOf w.g s.at_ t)[pickI w.hash (wnextOf w.g s.at_ t).length]? with
        | some e => (e, true)
        | none => (0, false) := rfl
    by_cases h0 : (wnextOf w.g s.at_ t).length = 0
    · have e0 : wnextOf w.g s.at_ t = [] := List.eq_nil_of_length_eq_zero h0
      rw [e0] at eh
      simp only [go_sem, simprocAttr, e0]
      rw [eh]
      exact out_tup2 out_sc out_sc
    · generalize wnextOf w.g s.at_ t = nx at *
      have hp := pickI_lt w.hash (k := nx.length) (by omega)
      have hz : ¬ ((nx.length : Int) = 0) := by omega
      have hw1 : IntKind.i64.wrap (w.hash.tmod nx.length) = w.hash.tmod nx.length := wrap_id (by omega) (by omega)
      have hw2 : IntKind.i64.wrap (w.hash.tmod nx.length + nx.length) = w.hash.tmod nx.length + nx.length := wrap_id (by omega) (by omega)
      have hw3 : IntKind.i64.wrap ((w.hash.tmod nx.length + nx.length).tmod nx.length) = (w.hash.tmod nx.length + nx.length).tmod nx.length := wrap_id (by omega) (by omega)
      have hi : ((w.hash.tmod nx.length + nx.length).tmod nx.length).toNat < nx.length := by omega
      have hx : (ints nx)[((w.hash.tmod nx.length + nx.length).tmod nx.length).toNat]? = some [.sc (.int .i64 nx[((w.hash.tmod nx.length + nx.length).tmod nx.length).toNat])] := ints_get (List.getElem?_eq_getElem hi)
      have e2 : hopOf w ⟨false, t⟩ s.at_ = (nx[((w.hash.tmod nx.length + nx.length).tmod nx.length).toNat], true) := by
        rw [eh]
        have : nx[pickI w.hash nx.length]? = some nx[((w.hash.tmod nx.length + nx.length).tmod nx.length).toNat] := List.getElem?_eq_getElem hi
        rw [this]
      rw [e2]
      have hp0 := hp.1
      simp only [go_sem, simprocAttr, hz, hw1, hw2, hw3, hx, hp0]
      exact out_tup2 out_sc out_sc
end Go.Proofs

set_option linter.unusedSimpArgs false
set_option linter.unusedVariables false
namespace Go.Proofs
open Go.Ab

def PkAt (σ : Store) (pid : Nat) (w : Pw) (s : Pk) (others : List Nat) : Prop := pid ∉ others ∧ ∃ ve, σ.get pid = some (.row 0 false 13 [w.cells s ve]) ∧ Acc σ 1 ve (ints s.es) (pid :: others)
theorem PkAt.out {σ : Store} {pid : Nat} {w : Pw} {s : Pk} {others : List Nat} (h : PkAt σ pid w s others) : Out 4 σ (.ptr pid 0 0 0) (w.val s) := by
  obtain ⟨_, ve, h1, h2⟩ := h
  refine out_ptr (m := 3) (rowAt_get h1) rfl ?_
  exact ⟨out_imm rfl, out_sc, out_imm rfl, out_imm rfl, out_sc, out_imm rfl, out_sc, out_sc, acc_out h2 (ints_sc _), out_sc, out_sc, out_sc, out_sc, trivial⟩
def crossed (w : Pw) (s : Pk) (x : Sg) (r : List Sg) (e : Int) : Pk := { s with l := if x.e then r else x :: r, es := s.es ++ [e], at_ := (w.g.ends e).2.1 }

theorem cross_ok (w : Pw) (s : Pk) (x : Sg) (r : List Sg) (e : Int) (hl : s.l = x :: r) (he : e < 9223372036854775808) (hes : s.es.length ≤ 1000000) {σ : Store} {pid : Nat} {others : List Nat} (h : PkAt σ pid w s others) :
    Ab.Good Try.prog 52 [.ptr pid 0 0 0, .i e] σ (fun v σ' => v = .tup [] ∧ PkAt σ' pid w (crossed w s x r e) others ∧ ∀ j ∈ others, σ'.get j = σ.get j) := by
  refine good_of_wp isF52 (Nat.le_refl _) ?_
  unfold ac52
  obtain ⟨hno, ve, h1, h2⟩ := h
  obtain ⟨xe, xt⟩ := x
  have r1 := rowAt_get h1
  unfold Pw.cells at r1 h1
  rw [hl] at r1 h1
  simp only [go_sem, simprocAttr, r1, segs, List.map_cons, Sg.row]
  cases xe with
  | true =>
    have q1 : (1 : Int) ≤ ((segs (⟨true, xt⟩ :: r)).length : Int) := by simp [segs]; omega
    have q2 := segs_all (⟨true, xt⟩ :: r)
    have q3 : List.take ((segs (⟨true, xt⟩ :: r)).length - 1) (List.drop 1 (segs (⟨true, xt⟩ :: r))) = segs r := by
      simp only [segs, List.map_cons, List.length_cons, Nat.add_sub_cancel, List.drop_succ_cons, List.drop_zero]
      exact List.take_length
    simp only [go_sem, simprocAttr, r1, q1, q2, q3, Int.le_refl]
    have gS : (σ.set pid (.row 0 false 13 [[w.g.tab, .sc (.int .i64 w.g.n), .lst (w.g.ls.map Lk.row), .lst (segs r), .sc (.int .i64 w.hash), .lst (bools w.down), .sc (.bool w.strict), .sc (.int .i64 w.depth), ve, .sc (.int .i64 s.at_), .sc (.int .i64 s.fin), .sc (.int .i64 s.ar), .sc (.int .i64 s.most)]])).get pid = some (.row 0 false 13 [[w.g.tab, .sc (.int .i64 w.g.n), .lst (w.g.ls.map Lk.row), .lst (segs r), .sc (.int .i64 w.hash), .lst (bools w.down), .sc (.bool w.strict), .sc (.int .i64 w.depth), ve, .sc (.int .i64 s.at_), .sc (.int .i64 s.fin), .sc (.int .i64 s.ar), .sc (.int .i64 s.most)]]) := Store.get_set_self _ _ _
    have rS := rowAt_get gS
    have aS := h2.other (id := pid) (by simp) (.row 0 false 13 [[w.g.tab, .sc (.int .i64 w.g.n), .lst (w.g.ls.map Lk.row), .lst (segs r), .sc (.int .i64 w.hash), .lst (bools w.down), .sc (.bool w.strict), .sc (.int .i64 w.depth), ve, .sc (.int .i64 s.at_), .sc (.int .i64 s.fin), .sc (.int .i64 s.ar), .sc (.int .i64 s.most)]])
    intro a ha
    have alive : Alive (σ.set pid (.row 0 false 13 [[w.g.tab, .sc (.int .i64 w.g.n), .lst (w.g.ls.map Lk.row), .lst (segs r), .sc (.int .i64 w.hash), .lst (bools w.down), .sc (.bool w.strict), .sc (.int .i64 w.depth), ve, .sc (.int .i64 s.at_), .sc (.int .i64 s.fin), .sc (.int .i64 s.ar), .sc (.int .i64 s.most)]])) (pid :: others) := aS.1
    have c := (aS).fresh ha (.row 0 false 1 [[.sc (.int .i64 e)]])
    have f1 := rowAt_fresh (o := .row 0 false 1 [[.sc (.int .i64 e)]]) ha (j := pid) (ver := 0) (by rw [rS]; rfl)
    simp only [go_sem, simprocAttr, f1, rS]
    refine acc_append c (by simp only [ints_len, List.length_cons, List.length_nil]; omega) (by simp only [ints_len, List.length_cons, List.length_nil]; omega) fun ve' σ2 u1 u2 => ?_
    have g2 : σ2.get pid = some (.row 0 false 13 [[w.g.tab, .sc (.int .i64 w.g.n), .lst (w.g.ls.map Lk.row), .lst (segs r), .sc (.int .i64 w.hash), .lst (bools w.down), .sc (.bool w.strict), .sc (.int .i64 w.depth), ve, .sc (.int .i64 s.at_), .sc (.int .i64 s.fin), .sc (.int .i64 s.ar), .sc (.int .i64 s.most)]]) := by rw [u2 pid (by simp), get_fresh ha (alive pid (by simp)), gS]
    have r2 := rowAt_get g2
    have kn := u1.known
    simp only [go_sem, simprocAttr, r2, kn]
    refine good_imm (ends_ok w.g e he) rfl ?_
    simp only [go_sem, simprocAttr]
    have u3 := u1.less (o2 := pid :: others) fun y hy => List.mem_cons_of_mem _ hy
    refine ⟨⟨hno, ve', by simp [Pw.cells, crossed, segs, Sg.row], ?_⟩, fun j hj => ?_⟩
    · rw [show (crossed w s ⟨true, xt⟩ r e).es = s.es ++ [e] from rfl, ints_app]
      exact u3.other (by simp) _
    · rw [Store.get_set_ne _ _ (fun q : j = pid => hno (by rw [← q]; exact hj)), u2 j (by simp [hj]), get_fresh ha (alive j (by simp [hj]))]
      rw [Store.get_set_ne _ _ (fun q : j = pid => hno (by rw [← q]; exact hj))]
  | false =>
    simp only [go_sem, simprocAttr, r1]
    intro a ha
    have alive : Alive σ (pid :: others) := h2.1
    have c := (h2).fresh ha (.row 0 false 1 [[.sc (.int .i64 e)]])
    have f1 := rowAt_fresh (o := .row 0 false 1 [[.sc (.int .i64 e)]]) ha (j := pid) (ver := 0) (by rw [r1]; rfl)
    simp only [go_sem, simprocAttr, f1, r1]
    refine acc_append c (by simp only [ints_len, List.length_cons, List.length_nil]; omega) (by simp only [ints_len, List.length_cons, List.length_nil]; omega) fun ve' σ2 u1 u2 => ?_
    have g2 : σ2.get pid = some (.row 0 false 13 [[w.g.tab, .sc (.int .i64 w.g.n), .lst (w.g.ls.map Lk.row), .lst (segs (⟨false, xt⟩ :: r)), .sc (.int .i64 w.hash), .lst (bools w.down), .sc (.bool w.strict), .sc (.int .i64 w.depth), ve, .sc (.int .i64 s.at_), .sc (.int .i64 s.fin), .sc (.int .i64 s.ar), .sc (.int .i64 s.most)]]) := by rw [u2 pid (by simp), get_fresh ha (alive pid (by simp)), h1]
    have r2 := rowAt_get g2
    have kn := u1.known
    simp only [go_sem, simprocAttr, r2, kn]
    refine good_imm (ends_ok w.g e he) rfl ?_
    simp only [go_sem, simprocAttr]
    have u3 := u1.less (o2 := pid :: others) fun y hy => List.mem_cons_of_mem _ hy
    refine ⟨⟨hno, ve', by simp [Pw.cells, crossed, segs, Sg.row], ?_⟩, fun j hj => ?_⟩
    · rw [show (crossed w s ⟨false, xt⟩ r e).es = s.es ++ [e] from rfl, ints_app]
      exact u3.other (by simp) _
    · rw [Store.get_set_ne _ _ (fun q : j = pid => hno (by rw [← q]; exact hj)), u2 j (by simp [hj]), get_fresh ha (alive j (by simp [hj]))]
      
end Go.Proofs

set_option linter.unusedSimpArgs false
set_option linter.unusedVariables false
namespace Go.Proofs
open Go.Ab

def stepOf (w : Pw) (A : Int → Pk → Bool × Pk) (s : Pk) : Int × Pk :=
  match s.l with
  | [] => (1, s)
  | x :: r =>
    if x.e = false ∧ x.t = s.at_ then (0, { s with l := r })
    else if s.es.length = 255 then (2, s)
    else if labelBad w.g x s.at_ = true then (5, s)
    else if (hopOf w x s.at_).2 = false then (4, s)
    else if isUp w.down (hopOf w x s.at_).1 = true then (0, crossed w s x r (hopOf w x s.at_).1)
    else if w.strict = true then (3, s)
    else if (A (hopOf w x s.at_).1 s).1 = false then (3, (A (hopOf w x s.at_).1 s).2)
    else if (A (hopOf w x s.at_).1 s).2.ar = 255 then (2, (A (hopOf w x s.at_).1 s).2) else (0, (A (hopOf w x s.at_).1 s).2)

theorem hop_range {w : Pw} (hok : w.g.Ok) {x : Sg} {a : Int} (h1 : labelBad w.g x a = false) (h2 : (hopOf w x a).2 = true) : 0 ≤ (hopOf w x a).1 ∧ (hopOf w x a).1 < 2 * (w.g.ls.length : Int) := by
  obtain ⟨e, t⟩ := x
  cases e with
  | true =>
    have : w.g.isSeg ⟨true, t⟩ = true := by
      cases hs : w.g.isSeg ⟨true, t⟩ with
      | true => rfl
      | false => simp [labelBad, hs] at h1
    simpa [hopOf, Gr.isSeg] using this
  | false =>
    have eh : hopOf w ⟨false, t⟩ a = match (wnextOf w.g a t)[pickI w.hash (wnextOf w.g a t).length]? with
        | some e => (e, true)
        | none => (0, false) := rfl
    rw [eh] at h2 ⊢
    cases hg : (wnextOf w.g a t)[pickI w.hash (wnextOf w.g a t).length]? with
    | none => rw [hg] at h2; cases h2
    | some e =>
      have hm := List.mem_of_getElem? hg
      unfold wnextOf at hm
      split at hm
      · unfold wnext nextOf at hm
        split at hm
        · have := Gr.mem_out (List.mem_filter.1 hm).1
          exact ⟨this.1, this.2.1⟩
        · cases hm
      · cases hm

def AroundOk (w : Pw) (A : Int → Pk → Bool × Pk) : Prop := ∀ (σ : Store) (pid : Nat) (others : List Nat) (s : Pk) (x : Sg) (r : List Sg) (e : Int), s.l = x :: r → labelBad w.g x s.at_ = false → hopOf w x s.at_ = (e, true) → isUp w.down e = false → w.strict = false → s.es.length ≤ 255 → PkAt σ pid w s others →
  Ab.Good Try.prog 53 [.ptr pid 0 0 0, .i e] σ (fun v σ' => v = .b (A e s).1 ∧ PkAt σ' pid w (A e s).2 others ∧ ∀ j ∈ others, σ'.get j = σ.get j)

theorem step_ok (w : Pw) (hok : w.g.Ok) (A : Int → Pk → Bool × Pk) (hA : AroundOk w A) (s : Pk) (hes : s.es.length ≤ 255) {σ : Store} {pid : Nat} {others : List Nat} (h : PkAt σ pid w s others) :
    Ab.Good Try.prog 29 [.ptr pid 0 0 0] σ (fun v σ' => v = .i (stepOf w A s).1 ∧ PkAt σ' pid w (stepOf w A s).2 others ∧ ∀ j ∈ others, σ'.get j = σ.get j) := by
  refine good_of_wp isF29 (Nat.le_refl _) ?_
  unfold ac29
  obtain ⟨hno, ve, h1, h2⟩ := id h
  have r1 := rowAt_get h1
  cases hl : s.l with
  | nil =>
    have e1 : stepOf w A s = (1, s) := by unfold stepOf; rw [hl]
    rw [e1]
    unfold Pw.cells at r1
    rw [hl] at r1
    simp only [go_sem, simprocAttr, r1, segs, List.map_nil]
    exact ⟨h, fun _ _ => trivial⟩
  | cons x r =>
    obtain ⟨xe, xt⟩ := x
    have e1 : stepOf w A s = if xe = false ∧ xt = s.at_ then (0, { s with l := r })
        else if s.es.length = 255 then (2, s)
        else if labelBad w.g ⟨xe, xt⟩ s.at_ = true then (5, s)
        else if (hopOf w ⟨xe, xt⟩ s.at_).2 = false then (4, s)
        else if isUp w.down (hopOf w ⟨xe, xt⟩ s.at_).1 = true then (0, crossed w s ⟨xe, xt⟩ r (hopOf w ⟨xe, xt⟩ s.at_).1)
        else if w.strict = true then (3, s)
        else if (A (hopOf w ⟨xe, xt⟩ s.at_).1 s).1 = false then (3, (A (hopOf w ⟨xe, xt⟩ s.at_).1 s).2)
        else if (A (hopOf w ⟨xe, xt⟩ s.at_).1 s).2.ar = 255 then (2, (A (hopOf w ⟨xe, xt⟩ s.at_).1 s).2) else (0, (A (hopOf w ⟨xe, xt⟩ s.at_).1 s).2) := by
      unfold stepOf; rw [hl]
    have r1' := r1
    unfold Pw.cells at r1
    rw [hl] at r1
    have q1 : (1 : Int) ≤ ((segs (⟨xe, xt⟩ :: r)).length : Int) := by simp [segs]; omega
    have q0 : ¬ (((segs (⟨xe, xt⟩ :: r)).length : Int) = 0) := by omega
    have q4 : (segs (⟨xe, xt⟩ :: r))[0]? = some [.sc (.bool xe), .sc (.int .i64 xt)] := rfl
    simp only [go_sem, simprocAttr, r1, q0]
    unfold op29_13
    simp only [go_sem, simprocAttr, r1, q4]
    cases xe with
    | false =>
      simp only [go_sem, simprocAttr, r1, q4]
      refine .intro (fun h3 => ?_) (fun h3 => ?_)
      · rw [if_pos ⟨rfl, h3⟩] at e1
        rw [e1]
        have q2 := segs_all (⟨false, xt⟩ :: r)
        have q3 : List.take ((segs (⟨false, xt⟩ :: r)).length - 1) (List.drop 1 (segs (⟨false, xt⟩ :: r))) = segs r := by
          simp only [segs, List.map_cons, List.length_cons, Nat.add_sub_cancel, List.drop_succ_cons, List.drop_zero]
          exact List.take_length
        simp only [go_sem, simprocAttr, r1, q1, q2, q3, Int.le_refl]
        refine ⟨⟨hno, ve, by simp [Pw.cells], h2.other (by simp) _⟩, fun j hj => ?_⟩
        rw [Store.get_set_ne _ _ (fun q : j = pid => hno (by rw [← q]; exact hj))]
      · rw [if_neg (fun q => h3 q.2)] at e1
        by_cases c2 : s.es.length = 255
        · have c2' : (s.es.length : Int) = 255 := by omega
          rw [if_pos c2] at e1
          rw [e1]
          simp only [go_sem, simprocAttr, r1, h2.len, ints_len, c2']
          exact ⟨h, fun _ _ => trivial⟩
        have c2' : ¬ ((s.es.length : Int) = 255) := by omega
        rw [if_neg c2] at e1
        simp only [go_sem, simprocAttr, r1, h2.len, ints_len, c2']
        refine good_out 4 (outL1 h.out) (label_ok w hok s ⟨false, xt⟩ r hl) rfl ?_
        cases c3 : labelBad w.g ⟨false, xt⟩ s.at_ with
        | true =>
          rw [if_pos c3] at e1
          rw [e1]
          simp only [go_sem, simprocAttr]
          exact ⟨h, fun _ _ => trivial⟩
        | false =>
        rw [if_neg (by rw [c3]; decide)] at e1
        simp only [go_sem, simprocAttr]
        refine good_out 4 (outL1 h.out) (hop_ok w hok s ⟨false, xt⟩ r hl) rfl ?_
        simp only [go_sem, simprocAttr]
        cases c4 : (hopOf w ⟨false, xt⟩ s.at_).2 with
        | false =>
          rw [if_pos c4] at e1
          rw [e1]
          simp only [go_sem, simprocAttr]
          exact ⟨h, fun _ _ => trivial⟩
        | true =>
        rw [if_neg (by rw [c4]; decide)] at e1
        have hr := hop_range hok c3 c4
        have hb1 := hok.1
        have ehop : hopOf w ⟨false, xt⟩ s.at_ = ((hopOf w ⟨false, xt⟩ s.at_).1, true) := Prod.ext rfl c4
        generalize (hopOf w ⟨false, xt⟩ s.at_).1 = ed at *
        simp only [go_sem, simprocAttr, r1]
        refine good_imm (up_ok w.down ed (by omega) (by omega)) rfl ?_
        cases c5 : isUp w.down ed with
        | true =>
          rw [if_pos c5] at e1
          rw [e1]
          simp only [go_sem, simprocAttr]
          refine (cross_ok w s ⟨false, xt⟩ r ed hl (by omega) (by omega) h).mono fun v σ2 hv => ?_
          obtain ⟨rfl, k1, k2⟩ := hv
          simp only [go_sem, simprocAttr]
          exact ⟨k1, k2⟩
        | false =>
        rw [if_neg (by rw [c5]; decide)] at e1
        simp only [go_sem, simprocAttr, r1]
        cases c6 : w.strict with
        | true =>
          rw [if_pos c6] at e1
          rw [e1]
          simp only [go_sem, simprocAttr]
          exact ⟨h, fun _ _ => trivial⟩
        | false =>
        rw [if_neg (by rw [c6]; decide)] at e1
        simp only [go_sem, simprocAttr]
        refine (hA σ pid others s ⟨false, xt⟩ r ed hl c3 ehop c5 c6 hes h).mono fun v σ2 hv => ?_
        obtain ⟨rfl, k1, k2⟩ := hv
        simp only [go_sem, simprocAttr]
        cases c7 : (A ed s).1 with
        | false =>
          rw [if_pos c7] at e1
          rw [e1]
          simp only [go_sem, simprocAttr]
          exact ⟨k1, k2⟩
        | true =>
        rw [if_neg (by rw [c7]; decide)] at e1
        obtain ⟨_, ve2, g1, g2⟩ := id k1
        have r2 := rowAt_get g1
        unfold Pw.cells at r2
        simp only [go_sem, simprocAttr, r2]
        refine .intro (fun c8 => ?_) (fun c8 => ?_)
        · rw [if_pos c8] at e1
          rw [e1]
          simp only [go_sem, simprocAttr]
          exact ⟨k1, k2⟩
        · rw [if_neg c8] at e1
          rw [e1]
          simp only [go_sem, simprocAttr]
          exact ⟨k1, k2⟩
    | true =>
      rw [if_neg (fun q => by cases q.1)] at e1
      simp only [go_sem, simprocAttr, r1, q4]
      by_cases c2 : s.es.length = 255
      · have c2' : (s.es.length : Int) = 255 := by omega
        rw [if_pos c2] at e1
        rw [e1]
        simp only [go_sem, simprocAttr, r1, h2.len, ints_len, c2']
        exact ⟨h, fun _ _ => trivial⟩
      have c2' : ¬ ((s.es.length : Int) = 255) := by omega
      rw [if_neg c2] at e1
      simp only [go_sem, simprocAttr, r1, h2.len, ints_len, c2']
      refine good_out 4 (outL1 h.out) (label_ok w hok s ⟨true, xt⟩ r hl) rfl ?_
      cases c3 : labelBad w.g ⟨true, xt⟩ s.at_ with
      | true =>
        rw [if_pos c3] at e1
        rw [e1]
        simp only [go_sem, simprocAttr]
        exact ⟨h, fun _ _ => trivial⟩
      | false =>
      rw [if_neg (by rw [c3]; decide)] at e1
      simp only [go_sem, simprocAttr]
      refine good_out 4 (outL1 h.out) (hop_ok w hok s ⟨true, xt⟩ r hl) rfl ?_
      simp only [go_sem, simprocAttr]
      cases c4 : (hopOf w ⟨true, xt⟩ s.at_).2 with
      | false =>
        rw [if_pos c4] at e1
        rw [e1]
        simp only [go_sem, simprocAttr]
        exact ⟨h, fun _ _ => trivial⟩
      | true =>
      rw [if_neg (by rw [c4]; decide)] at e1
      have hr := hop_range hok c3 c4
      have hb1 := hok.1
      have ehop : hopOf w ⟨true, xt⟩ s.at_ = ((hopOf w ⟨true, xt⟩ s.at_).1, true) := Prod.ext rfl c4
      generalize (hopOf w ⟨true, xt⟩ s.at_).1 = ed at *
      simp only [go_sem, simprocAttr, r1]
      refine good_imm (up_ok w.down ed (by omega) (by omega)) rfl ?_
      cases c5 : isUp w.down ed with
      | true =>
        rw [if_pos c5] at e1
        rw [e1]
        simp only [go_sem, simprocAttr]
        refine (cross_ok w s ⟨true, xt⟩ r ed hl (by omega) (by omega) h).mono fun v σ2 hv => ?_
        obtain ⟨rfl, k1, k2⟩ := hv
        simp only [go_sem, simprocAttr]
        exact ⟨k1, k2⟩
      | false =>
      rw [if_neg (by rw [c5]; decide)] at e1
      simp only [go_sem, simprocAttr, r1]
      cases c6 : w.strict with
      | true =>
        rw [if_pos c6] at e1
        rw [e1]
        simp only [go_sem, simprocAttr]
        exact ⟨h, fun _ _ => trivial⟩
      | false =>
      rw [if_neg (by rw [c6]; decide)] at e1
      simp only [go_sem, simprocAttr]
      refine (hA σ pid others s ⟨true, xt⟩ r ed hl c3 ehop c5 c6 hes h).mono fun v σ2 hv => ?_
      obtain ⟨rfl, k1, k2⟩ := hv
      simp only [go_sem, simprocAttr]
      cases c7 : (A ed s).1 with
      | false =>
        rw [if_pos c7] at e1
        rw [e1]
        simp only [go_sem, simprocAttr]
        exact ⟨k1, k2⟩
      | true =>
      rw [if_neg (by rw [c7]; decide)] at e1
      obtain ⟨_, ve2, g1, g2⟩ := id k1
      have r2 := rowAt_get g1
      unfold Pw.cells at r2
      simp only [go_sem, simprocAttr, r2]
      refine .intro (fun c8 => ?_) (fun c8 => ?_)
      · rw [if_pos c8] at e1
        rw [e1]
        simp only [go_sem, simprocAttr]
        exact ⟨k1, k2⟩
      · rw [if_neg c8] at e1
        rw [e1]
        simp only [go_sem, simprocAttr]
        exact ⟨k1, k2⟩
end Go.Proofs

set_option linter.unusedSimpArgs false
set_option linter.unusedVariables false
namespace Go.Proofs
open Go.Ab

def runOf (w : Pw) (A : Int → Pk → Bool × Pk) : Nat → Pk → Pk
  | 0, s => s
  | f + 1, s => if (stepOf w A s).1 = 0 then runOf w A f (stepOf w A s).2 else { (stepOf w A s).2 with fin := (stepOf w A s).1 }
def walkVal (s : Pk) : AVal := .agg [.lst (ints s.es), .sc (.int .i64 s.at_), .sc (.int .i64 s.fin), .sc (.int .i64 s.ar), .sc (.int .i64 s.most)]
def pk0 (l : List Sg) (from_ : Int) : Pk := ⟨l, [], from_, 0, 0, l.length⟩
def cutD (d : Int) : Int := if 0 < (if 10 < d then 10 else d) then (if 10 < d then 10 else d) else 0
theorem runOf_fuel {w : Pw} {A : Int → Pk → Bool × Pk} {J : Pk → Prop} {μ : Pk → Nat} (hJ : ∀ s, J s → (stepOf w A s).1 = 0 → J (stepOf w A s).2 ∧ μ (stepOf w A s).2 < μ s) : ∀ (f f' : Nat) (s : Pk), J s → μ s < f → μ s < f' → runOf w A f s = runOf w A f' s
  | 0, _, _, _, h, _ => by omega
  | _ + 1, 0, _, _, _, h => by omega
  | f + 1, f' + 1, s, hs, h, h' => by
    simp only [runOf]
    split
    · rename_i h0
      obtain ⟨h1, h2⟩ := hJ s hs h0
      exact runOf_fuel hJ f f' _ h1 (by omega) (by omega)
    · rfl
def RunInv (w : Pw) (A : Int → Pk → Bool × Pk) (J : Pk → Prop) (μ : Pk → Nat) (R : Pk) (cid pid : Nat) (m : Nat) (fr : Fr) (σ : Store) : Prop :=
  ∃ s : Pk, fr = [(14, .ptr cid 0 0 0), (16, .ptr pid 0 0 0)] ∧ PkAt σ pid w s [cid] ∧ σ.get cid = some (.row 0 false 5 [[.nils, .sc (.int .i64 0), .sc (.int .i64 0), .sc (.int .i64 0), .sc (.int .i64 0)]]) ∧
    ((s.fin = 0 ∧ J s ∧ m = μ s + 1 ∧ runOf w A (μ s + 1) s = R) ∨ (s.fin ≠ 0 ∧ m = 0 ∧ s = R))

theorem run_ok (w : Pw) (hok : w.g.Ok) (A : Int → Pk → Bool × Pk) (hA : AroundOk w A) (from_ : Int) (l : List Sg) (d0 : Int) (hd : w.depth = cutD d0) (hl : l.length < 1000000) (J : Pk → Prop) (μ : Pk → Nat) (h0 : J (pk0 l from_))
    (hJ : ∀ s, J s → s.fin = 0 ∧ s.es.length ≤ 255 ∧ (stepOf w A s).2.fin = 0 ∧ ((stepOf w A s).1 = 0 → J (stepOf w A s).2 ∧ μ (stepOf w A s).2 < μ s)) (hf : 0 ≤ from_ ∧ from_ < w.g.n) :
    PGood Try.prog 14 [w.g.tab, .i from_, .lst (segs l), .i w.hash, .lst (bools w.down), .b w.strict, .i d0] (walkVal (runOf w A (μ (pk0 l from_) + 1) (pk0 l from_))) := by
  refine pgood_of_out 4 (good_of_wp isF14 (Nat.le_refl _) ?_)
  unfold ac14
  simp only [go_sem, simprocAttr]
  intro cid hcid
  simp only [go_sem, simprocAttr]
  refine good_imm (tgraph_ok w.g (by have := hok.1; omega)) rfl ?_
  simp only [go_sem, simprocAttr, Gr.val]
  intro gid hgid
  have f1 := fun o => rowAt_fresh (o := o) hgid (j := cid) (ver := 0) (by rw [rowAt_self]; rfl)
  simp only [go_sem, simprocAttr]
  refine good_imm (is_ok w.g.n _ from_) rfl ?_
  have ktab : known w.g.tab = some [w.g.tab] := rfl
  simp only [go_sem, simprocAttr, hf, ktab]
  intro pid hpid
  have f2 := fun o => rowAt_fresh (o := o) hpid (j := cid) (ver := 0) (by rw [f1, rowAt_self]; rfl)
  simp only [go_sem, simprocAttr]
  have hc : cid ≠ pid := fun e => by rw [← e] at hpid; rw [get_fresh hgid (by simp)] at hpid; simp at hpid
  refine loop_rule (RunInv w A J μ (runOf w A (μ (pk0 l from_) + 1) (pk0 l from_)) cid pid) (μ (pk0 l from_) + 1) ?_ ?_
  · refine ⟨pk0 l from_, rfl, ⟨by simpa using hc.symm, .nils, ?_, acc_nils ?_⟩, ?_, .inl ⟨rfl, h0, rfl, rfl⟩⟩
    · rw [Store.get_set_self]
      simp [Pw.cells, pk0, hd, cutD, segs]
    · have gp : ∀ o : Ab.Obj, (((Store.empty.set cid (.row 0 false 5 [[.nils, .sc (.int .i64 0), .sc (.int .i64 0), .sc (.int .i64 0), .sc (.int .i64 0)]])).set gid (.row 0 false 2 [[.sc (.int .i64 w.g.n), .lst (w.g.ls.map Lk.row)]])).set pid o).get cid = some (.row 0 false 5 [[.nils, .sc (.int .i64 0), .sc (.int .i64 0), .sc (.int .i64 0), .sc (.int .i64 0)]]) := fun o => by
        rw [Store.get_set_ne _ _ hc, get_fresh hgid (by simp)]; simp
      exact alive_cons (Store.get_set_self _ _ _) (alive_cons (gp _) alive_nil)
    · rw [Store.get_set_ne _ _ hc, get_fresh hgid (by simp)]; simp
  · rintro m fr σ ⟨s, rfl, h1, h2, h3⟩
    obtain ⟨hno, ve, g1, g2⟩ := id h1
    have r1 := rowAt_get g1
    unfold Pw.cells at r1
    simp only [go_sem, simprocAttr, r1]
    refine .intro (fun h4 => ?_) (fun h4 => ?_)
    · simp only [go_sem, simprocAttr]
      rcases h3 with ⟨k1, k2, k3, k4⟩ | ⟨k1, _, _⟩
      · obtain ⟨j1, j2, j3, j4⟩ := hJ s k2
        refine (step_ok w hok A hA s j2 h1).mono fun v σ2 hv => ?_
        obtain ⟨rfl, u1, u2⟩ := hv
        obtain ⟨_, ve2, g3, g4⟩ := id u1
        have r2 := rowAt_get g3
        unfold Pw.cells at r2
        simp only [go_sem, simprocAttr, r2]
        have hcp : cid ≠ pid := fun e => hno (by simp [e])
        have g5 : σ2.get cid = σ.get cid := u2 cid (by simp)
        by_cases c0 : (stepOf w A s).1 = 0
        · obtain ⟨j5, j6⟩ := j4 c0
          have e2 : (stepOf w A s).2 = { (stepOf w A s).2 with fin := (stepOf w A s).1 } := by rw [c0, ← j3]
          refine back_of (μ (stepOf w A s).2 + 1) (by omega) ⟨(stepOf w A s).2, rfl, ⟨by simpa using hcp.symm, ve2, ?_, g4.other (by simp) _⟩, ?_, .inl ⟨j3, j5, rfl, ?_⟩⟩
          · rw [Store.get_set_self, c0]
            simp [Pw.cells, j3]
          · rw [Store.get_set_ne _ _ hcp, g5, h2]
          · rw [← k4]
            have : runOf w A (μ s + 1) s = runOf w A (μ s) (stepOf w A s).2 := by simp only [runOf, c0, if_true]
            rw [this]
            exact runOf_fuel (J := J) (μ := μ) (fun s hs hc => (hJ s hs).2.2.2 hc) _ _ _ j5 (by omega) (by omega)
        · refine back_of 0 (by omega) ⟨{ (stepOf w A s).2 with fin := (stepOf w A s).1 }, rfl, ⟨by simpa using hcp.symm, ve2, ?_, g4.other (by simp) _⟩, ?_, .inr ⟨c0, rfl, ?_⟩⟩
          · rw [Store.get_set_self]
            simp [Pw.cells]
          · rw [Store.get_set_ne _ _ hcp, g5, h2]
          · rw [← k4]
            simp only [runOf, c0, if_false]
      · exact absurd h4 k1
    · simp only [go_sem, simprocAttr, r1]
      have r2 := rowAt_get h2
      have kn := g2.known
      simp only [go_sem, simprocAttr, r2, kn]
      rcases h3 with ⟨k1, _, _, _⟩ | ⟨_, _, k3⟩
      · exact absurd k1 h4
      · rw [← k3]
        refine out_agg (m := 3) ⟨acc_out (g2.other (id := cid) (by simp) _) (ints_sc _), out_sc, out_sc, out_sc, out_sc, trivial⟩
end Go.Proofs

set_option linter.unusedSimpArgs false
set_option linter.unusedVariables false
namespace Go.Proofs
open Go.Ab

theorem copy_graph_ok (g : Gr) (hg : g.ls.length ≤ 1000000) : PGood Try.prog 40 [g.val] g.val := by
  refine pgood_of_out 3 (good_of_wp isF40 (Nat.le_refl _) ?_)
  unfold ac40
  have hlen : (g.ls.map Lk.row).length ≤ 1000000 := by simpa using hg
  simp only [go_sem, simprocAttr, Gr.val]
  intro id hid
  simp only [go_sem, simprocAttr]
  intro cid hcid
  have hne : id ≠ cid := fun e => by subst e; simp at hcid
  have f1 := fun o => rowAt_fresh (o := o) hcid (j := id) (ver := 0) (by rw [rowAt_self]; rfl)
  have hall := links_len g.ls
  simp only [go_sem, simprocAttr, f1, hall]
  have al : Alive ((Store.empty.set id (.row 0 false 2 [[.sc (.int .i64 g.n), .lst (g.ls.map Lk.row)]])).set cid (.row 0 false 2 [[.sc (.int .i64 0), .nils]])) [id, cid] := by
    refine alive_cons (j := id) (o := .row 0 false 2 [[.sc (.int .i64 g.n), .lst (g.ls.map Lk.row)]]) ?_ (alive_cons (Store.get_set_self _ _ _) alive_nil)
    rw [Store.get_set_ne _ _ hne]; simp
  refine acc_append (acc_nils al) (by simp only [List.length_nil]; omega) (by simp only [List.length_nil]; omega) fun v σ2 u1 u2 => ?_
  have g1 : σ2.get id = some (.row 0 false 2 [[.sc (.int .i64 g.n), .lst (g.ls.map Lk.row)]]) := by rw [u2 id (by simp), Store.get_set_ne _ _ hne]; simp
  have g2 : σ2.get cid = some (.row 0 false 2 [[.sc (.int .i64 0), .nils]]) := by rw [u2 cid (by simp)]; simp
  have r1 := rowAt_get g1
  have kn := u1.known
  have r2 : ∀ o, Ab.rowAt (σ2.set id o) cid 0 = some (false, 2, [[.sc (.int .i64 0), .nils]]) := fun o => by rw [rowAt_ne hne.symm]; exact rowAt_get g2
  simp only [go_sem, simprocAttr, r1, kn, r2]
  refine out_agg (m := 2) ⟨out_sc, ?_, trivial⟩
  have u3 : Acc σ2 4 v (g.ls.map Lk.row) [id, cid] := by simpa using u1
  exact acc_out ((u3.other (by simp) _).other (id := cid) (by simp) _) (links_sc _)

def refRows (g : Gr) (k : Nat) : List (List AVal) := (List.range k).map fun (t : Nat) => [.lst (ints (refFrom g [] t))]
def Gr.rtab (g : Gr) : AVal := .iptr [.sc (.int .i64 g.n), .lst (g.ls.map Lk.row), .lst (refRows g g.n.toNat)] 0
def rnewOf (g : Gr) : AVal := if g.check.2 = 0 then .tup [g.rtab, .i 0] else .tup [.nilp, .i g.check.2]
theorem refRows_succ (g : Gr) (k : Nat) : refRows g (k + 1) = refRows g k ++ [[.lst (ints (refFrom g [] k))]] := by simp [refRows, List.range_succ]
theorem refRows_len (g : Gr) (k : Nat) : (refRows g k).length = k := by simp [refRows]

theorem rnew_ok (g : Gr) : PGood Try.prog 20 [g.val] (rnewOf g) := by
  refine pgood_of_out 5 (good_of_wp isF20 (Nat.le_refl _) ?_)
  unfold ac20
  simp only [go_sem, simprocAttr, Gr.val]
  intro gid hgid
  simp only [go_sem, simprocAttr]
  refine good_imm (rcheck_ok g) rfl ?_
  simp only [go_sem, simprocAttr]
  by_cases h0 : g.check.2 = 0
  · have hok : g.Ok := g.check_ok.1 h0
    obtain ⟨hl, hn1, hn2, _⟩ := id hok
    simp only [go_sem, simprocAttr, h0]
    refine good_imm (copy_graph_ok g (by omega)) rfl ?_
    simp only [go_sem, simprocAttr, Gr.val]
    intro tid htid
    have f1 := fun o => rowAt_fresh (o := o) htid (j := gid) (ver := 0) (by rw [rowAt_self]; rfl)
    have hne : gid ≠ tid := fun e => by subst e; simp at htid
    simp only [go_sem, simprocAttr, f1]
    refine loop_rule (fun m fr σ => ∃ (i : Nat) (v1 : AVal), i ≤ g.n.toNat ∧ m = g.n.toNat - i ∧ fr = [(1, .ptr gid 0 0 0), (6, .ptr tid 0 0 0), (7, .i i)] ∧
      σ.get gid = some (.row 0 false 2 [[.sc (.int .i64 g.n), .lst (g.ls.map Lk.row)]]) ∧ σ.get tid = some (.row 0 false 3 [[.sc (.int .i64 g.n), .lst (g.ls.map Lk.row), v1]]) ∧
      Acc σ 1 v1 (refRows g i) [tid, gid]) g.n.toNat ⟨0, .nils, by omega, rfl, rfl, ?_, by simp, acc_nils ?_⟩ ?_
    · rw [Store.get_set_ne _ _ hne]; simp
    · refine alive_cons (Store.get_set_self _ _ _) (alive_cons (j := gid) (o := .row 0 false 2 [[.sc (.int .i64 g.n), .lst (g.ls.map Lk.row)]]) ?_ alive_nil)
      rw [Store.get_set_ne _ _ hne]; simp
    · rintro m fr σ ⟨i, v1, h1, rfl, rfl, h3, h4, h5⟩
      have r1 := rowAt_get h3
      have r2 := rowAt_get h4
      simp only [go_sem, simprocAttr, r1]
      refine .intro (fun h => ?_) (fun h => ?_)
      · simp only [go_sem, simprocAttr]
        unfold op20_26
        simp only [go_sem, simprocAttr, r1, r2]
        refine goodD_outi (outL3 (out_imm rfl) out_nils out_sc) rfl (ref_from_ok g [] i) ?_
        simp only [go_sem, simprocAttr]
        intro a ha
        simp only [go_sem, simprocAttr, resD_append]
        have c := h5.fresh ha (.row 0 false 1 [[.lst (ints (refFrom g [] i))]])
        refine acc_append c (by simp only [refRows_len, List.length_cons, List.length_nil]; omega) (by simp only [refRows_len, List.length_cons, List.length_nil]; omega) fun w σ2 u1 u2 => ?_
        have g1 : σ2.get gid = some (.row 0 false 2 [[.sc (.int .i64 g.n), .lst (g.ls.map Lk.row)]]) := by rw [u2 gid (by simp), get_fresh ha (h5.1 gid (by simp)), h3]
        have g2 : σ2.get tid = some (.row 0 false 3 [[.sc (.int .i64 g.n), .lst (g.ls.map Lk.row), v1]]) := by rw [u2 tid (by simp), get_fresh ha (h5.1 tid (by simp)), h4]
        have s2 := rowAt_get g2
        have kn := u1.known
        have hw : IntKind.i64.wrap ((i : Int) + 1) = ((i + 1 : Nat) : Int) := by rw [wrap_id (by omega) (by omega)]; rfl
        simp only [go_sem, simprocAttr, s2, kn, hw]
        have hn : gid ≠ tid := hne
        refine back_of _ ?_ ⟨i + 1, w, by omega, rfl, rfl, ?_, by simp, ?_⟩
        · omega
        · rw [Store.get_set_ne _ _ hn, g1]
        · rw [refRows_succ]
          exact (u1.less fun x hx => List.mem_cons_of_mem _ hx).other (by simp) _
      · simp only [go_sem, simprocAttr]
        have ei : i = g.n.toNat := by omega
        subst ei
        have e : rnewOf g = .tup [g.rtab, .i 0] := if_pos h0
        rw [e]
        have i1 : ∀ y ∈ refRows g g.n.toNat, ∀ c ∈ y, immA 2 c = true := fun y hy c hc => by
          simp only [refRows, List.mem_map] at hy
          obtain ⟨k, _, rfl⟩ := hy
          simp at hc
          subst hc; rfl
        refine out_tup2 (m := 4) (out_ptr (m := 3) r2 rfl ⟨out_sc, out_imm rfl, acc_out_imm h5 i1, trivial⟩) out_sc
  · simp only [go_sem, simprocAttr, h0]
    unfold rnewOf
    rw [if_neg h0]
    exact out_imm rfl

/-- The program's tables and the document's own. -/
def tabsOf (g : Gr) : AVal := if g.check.2 = 0 then .tup [g.tab, g.rtab, .b true] else .tup [.nilp, .nilp, .b false]
theorem tables_ok (g : Gr) : PGood Try.prog 11 [g.val] (tabsOf g) := by
  refine pgood_of_out 4 (good_of_wp isF11 (Nat.le_refl _) ?_)
  unfold ac11
  simp only [go_sem, simprocAttr, Gr.val]
  intro gid hgid
  simp only [go_sem, simprocAttr]
  by_cases h0 : g.check.2 = 0
  · have e1 := tnew_ok g
    have e2 := rnew_ok g
    unfold newOf at e1
    unfold rnewOf at e2
    rw [if_pos h0] at e1 e2
    refine good_imm e1 rfl ?_
    simp only [go_sem, simprocAttr]
    refine good_imm e2 rfl ?_
    simp only [go_sem, simprocAttr, Gr.tab]
    unfold tabsOf
    rw [if_pos h0]
    exact out_imm rfl
  · have e1 := tnew_ok g
    have e2 := rnew_ok g
    unfold newOf at e1
    unfold rnewOf at e2
    rw [if_neg h0] at e1 e2
    refine good_imm e1 rfl ?_
    simp only [go_sem, simprocAttr]
    refine good_imm e2 rfl ?_
    simp only [go_sem, simprocAttr, h0]
    unfold tabsOf
    rw [if_neg h0]
    exact out_imm rfl
end Go.Proofs

set_option linter.unusedSimpArgs false
set_option linter.unusedVariables false
namespace Go.Proofs
open Go.Ab

theorem good_out_any {P : Program} {σ : Store} {f : FuncId} {args xs : List AVal} {r : AVal} {Q : AVal → Store → Prop} (m : Nat) (h : OutL m σ args xs) (hp : PGood P f xs r) (hQ : ∀ τ, (∃ p, τ = σ.freeze p) → Q r τ) : Ab.Good P f args σ Q := by
  obtain ⟨ys, h1, h2, h3⟩ := outL_spec h
  refine good_of_pgood m h1 (hp.sub h2 h3) (hQ _ ?_)
  unfold after
  split
  · exact ⟨fun _ => false, Store.ext fun i => by
      rw [Store.get_freeze]
      cases hg : σ.get i with
      | none => rfl
      | some o => cases o <;> simp⟩
  · exact ⟨_, rfl⟩

def noA : Int → Pk → Bool × Pk := fun _ s => (false, s)
theorem isUp_nil (e : Int) : isUp [] e = true := by simp [isUp]
theorem noA_ok {w : Pw} (h : w.down = []) : AroundOk w noA := fun σ pid others s x r e _ _ _ hu => by
  rw [h, isUp_nil] at hu
  cases hu
def muUp (s : Pk) : Nat := (256 - s.es.length) + s.l.length
def JUp (s : Pk) : Prop := s.fin = 0 ∧ s.es.length ≤ 255
theorem jUp {w : Pw} (h : w.down = []) : ∀ s, JUp s → s.fin = 0 ∧ s.es.length ≤ 255 ∧ (stepOf w noA s).2.fin = 0 ∧ ((stepOf w noA s).1 = 0 → JUp (stepOf w noA s).2 ∧ muUp (stepOf w noA s).2 < muUp s) := by
  rintro s ⟨h1, h2⟩
  refine ⟨h1, h2, ?_⟩
  unfold stepOf
  rw [h]
  cases hl : s.l with
  | nil => exact ⟨h1, fun e => by cases e⟩
  | cons x r =>
    simp only
    split
    · exact ⟨h1, fun _ => ⟨⟨h1, h2⟩, by simp only [muUp, hl, List.length_cons]; omega⟩⟩
    · split
      · exact ⟨h1, fun e => by cases e⟩
      · rename_i h3
        split
        · exact ⟨h1, fun e => by cases e⟩
        · split
          · exact ⟨h1, fun e => by cases e⟩
          · rw [if_pos (isUp_nil _)]
            refine ⟨h1, fun _ => ⟨⟨h1, ?_⟩, ?_⟩⟩
            · simp only [crossed, List.length_append, List.length_cons, List.length_nil]; omega
            · simp only [muUp, crossed, hl, List.length_append, List.length_cons, List.length_nil]
              split
              · omega
              · simp only [List.length_cons]; omega

/-- What a packet does where no link is down. -/
def upRun (g : Gr) (from_ : Int) (l : List Sg) (hash : Int) (strict : Bool) (d0 : Int) : Pk := runOf ⟨g, hash, [], strict, cutD d0⟩ noA (muUp (pk0 l from_) + 1) (pk0 l from_)
theorem up_run_ok (g : Gr) (hok : g.Ok) (from_ : Int) (l : List Sg) (hash : Int) (strict : Bool) (d0 : Int) (hl : l.length < 1000000) (hf : 0 ≤ from_ ∧ from_ < g.n) :
    PGood Try.prog 14 [g.tab, .i from_, .lst (segs l), .i hash, .lst (bools []), .b strict, .i d0] (walkVal (upRun g from_ l hash strict d0)) :=
  run_ok ⟨g, hash, [], strict, cutD d0⟩ hok noA (noA_ok rfl) from_ l d0 rfl hl JUp muUp ⟨rfl, by simp [pk0]⟩ (jUp rfl) hf

theorem segs_sc (l : List Sg) : ∀ y ∈ segs l, ∀ c ∈ y, ∃ v, c = .sc v := by
  intro y hy c hc
  simp only [segs, List.mem_map] at hy
  obtain ⟨k, _, rfl⟩ := hy
  simp only [Sg.row, List.mem_cons, List.mem_nil_iff, or_false] at hc
  rcases hc with rfl | rfl <;> exact ⟨_, rfl⟩

def xG : Gr := ⟨2, [⟨0, 1, 7, 0⟩]⟩
theorem xG_ok : xG.check.2 = 0 := by decide +kernel
theorem xr1 : upRun xG 0 [] 5 false 3 = ⟨[], [], 0, 1, 0, 0⟩ := by
  have : (upRun xG 0 [] 5 false 3).l.length = 0 ∧ (upRun xG 0 [] 5 false 3).es = [] ∧ (upRun xG 0 [] 5 false 3).at_ = 0 ∧ (upRun xG 0 [] 5 false 3).fin = 1 ∧ (upRun xG 0 [] 5 false 3).ar = 0 ∧ (upRun xG 0 [] 5 false 3).most = 0 := by decide +kernel
  obtain ⟨h1, h2, h3, h4, h5, h6⟩ := this
  generalize upRun xG 0 [] 5 false 3 = p at *
  cases p
  simp at h1 h2 h3 h4 h5 h6 ⊢
  exact ⟨h1, h2, h3, h4, h5, h6⟩
theorem xr2 : (upRun xG 0 [⟨false, 1⟩] 5 false 3).fin = 1 ∧ (upRun xG 0 [⟨false, 1⟩] 5 false 3).at_ = 1 ∧ (upRun xG 0 [⟨false, 1⟩] 5 false 3).es.length = 1 := by decide +kernel

theorem alive_ok : PGood Try.prog 8 [] (.b true) := by
  refine pgood_of_out 1 (good_of_wp isF8 (Nat.le_refl _) ?_)
  unfold ac8
  simp only [go_sem, simprocAttr]
  intro id hid
  simp only [go_sem, simprocAttr]
  have r1 : Ab.rowAt (Store.empty.set id (.row 0 false 4 [[.sc (.int .i64 0), .sc (.int .i64 1), .sc (.int .i64 7), .sc (.int .i64 0)]])) id 0 = some (false, 4, [[.sc (.int .i64 0), .sc (.int .i64 1), .sc (.int .i64 7), .sc (.int .i64 0)]]) := rowAt_self
  have t1 := tables_ok xG
  have hx : tabsOf xG = .tup [xG.tab, xG.rtab, .b true] := if_pos xG_ok
  rw [hx] at t1
  refine good_out_any 4 (outL1 (x := xG.val) (out_agg (m := 3) (cs := [.i 2, .sl id 0 0 1 4]) (ds := [.i 2, .lst (xG.ls.map Lk.row)]) ⟨out_sc, out_sl r1 (by simp) rfl (links_sc [⟨0, 1, 7, 0⟩]), trivial⟩)) t1 ?_
  rintro τ -
  simp only [go_sem, simprocAttr]
  have hok : xG.Ok := xG.check_ok.1 xG_ok
  have w1 := up_run_ok xG hok 0 [] 5 false 3 (by simp) (by decide)
  rw [xr1] at w1
  refine good_outi (xs := [xG.tab, .i 0, .lst (segs []), .i 5, .lst (bools []), .b false, .i 3]) ⟨out_imm rfl, out_sc, out_nils, out_sc, out_nils, out_sc, out_sc, trivial⟩ rfl w1 ?_
  simp only [go_sem, simprocAttr, walkVal]
  intro a ha
  simp only [go_sem, simprocAttr]
  intro b hb
  simp only [go_sem, simprocAttr]
  have w2 := up_run_ok xG hok 0 [⟨false, 1⟩] 5 false 3 (by simp) (by decide)
  obtain ⟨x1, x2, x3⟩ := xr2
  generalize upRun xG 0 [⟨false, 1⟩] 5 false 3 = q at *
  have rb : Ab.rowAt ((τ.set a (.row 0 false 5 [[.lst (ints []), .sc (.int .i64 0), .sc (.int .i64 1), .sc (.int .i64 0), .sc (.int .i64 0)]])).set b (.row 0 false 2 [[.sc (.bool false), .sc (.int .i64 1)]])) b 0 = some (false, 2, [[.sc (.bool false), .sc (.int .i64 1)]]) := rowAt_self
  have hab : a ≠ b := fun e => by subst e; simp at hb
  have ra : Ab.rowAt ((τ.set a (.row 0 false 5 [[.lst (ints []), .sc (.int .i64 0), .sc (.int .i64 1), .sc (.int .i64 0), .sc (.int .i64 0)]])).set b (.row 0 false 2 [[.sc (.bool false), .sc (.int .i64 1)]])) a 0 = some (false, 5, [[.lst (ints []), .sc (.int .i64 0), .sc (.int .i64 1), .sc (.int .i64 0), .sc (.int .i64 0)]]) := by rw [rowAt_ne hab, rowAt_self]
  refine good_out_any (xs := [xG.tab, .i 0, .lst (segs [⟨false, 1⟩]), .i 5, .lst (bools []), .b false, .i 3]) 4 ⟨out_imm rfl, out_sc, out_sl rb (by simp) rfl (segs_sc [⟨false, 1⟩]), out_sc, out_nils, out_sc, out_sc, trivial⟩ w2 ?_
  rintro υ ⟨p, rfl⟩
  have ra2 := rowAt_freeze (p := p) ra
  generalize ((τ.set a (.row 0 false 5 [[.lst (ints []), .sc (.int .i64 0), .sc (.int .i64 1), .sc (.int .i64 0), .sc (.int .i64 0)]])).set b (.row 0 false 2 [[.sc (.bool false), .sc (.int .i64 1)]])).freeze p = υ at *
  simp only [go_sem, simprocAttr, walkVal]
  intro c hc
  have ra3 := fun o => rowAt_fresh (o := o) hc (j := a) (ver := 0) (by rw [ra2]; rfl)
  simp only [go_sem, simprocAttr, ra3, ra2, x1, x2, ints_len, x3]
  exact out_sc
end Go.Proofs

namespace Go.Proofs.Ytjaejliefojfjaa
open Go.ChangeShapes Go.WideShapes Go.ChangeAt Go.RowKit Go.Ab
set_option linter.unusedVariables false

theorem ownKn : ownKnob Try.prog.godebug = none := by kernel_rfl
theorem laidOut : laidOutB Try.prog = true := by kernel_rfl
/-- A law that answers true, called. -/
theorem law_calls {f : FuncId} {xs : List AVal} (h : PGood Try.prog f xs (.b true)) {W : World} {vs : Array Value} (hr : RelL Asg.none (fun b => b < W.heap.size) W xs vs) :
    Calls Try.prog f vs W fun e w' => e = .returned (.bool true) ∧ Below W.heap.size W w' := by
  refine (h.2 (fun b => b < W.heap.size) W vs (fun _ h => h) hr).mono ?_
  rintro e w' ⟨v, Im', rfl, _, _, _, h4, h5⟩
  rw [rel_sc_inv h4]
  exact ⟨rfl, h5.toBelow⟩
end Go.Proofs.Ytjaejliefojfjaa

set_option linter.unusedSimpArgs false
set_option linter.unusedVariables false
namespace Go.Proofs
open Go.Ab

theorem same_walk_ok (a b : Pk) (ha : a.es.length < 1000000000) (he : a = b) : PGood Try.prog 18 [walkVal a, walkVal b] (.b true) := by
  subst he
  refine pgood_of_out 2 (good_of_wp isF18 (Nat.le_refl _) ?_)
  unfold ac18
  simp only [go_sem, simprocAttr, walkVal]
  intro id hid
  simp only [go_sem, simprocAttr]
  intro id2 hid2
  have f1 := fun o => rowAt_fresh (o := o) hid2 (j := id) (ver := 0) (by rw [rowAt_self]; rfl)
  simp only [go_sem, simprocAttr, f1]
  refine good_imm (same_ok a.es a.es ha) rfl ?_
  simp only [go_sem, simprocAttr]
  exact out_sc

def zL (k : Nat) : List Lk := List.replicate k ⟨0, 1, 3, 0⟩
def zG (k : Nat) : Gr := ⟨2, zL k⟩
def zs : List Sg := [⟨false, 1⟩]
theorem z_ok {k : Nat} (h1 : 1 ≤ k) (h8 : k ≤ 8) : (zG k).check.2 = 0 := by
  have : k = 1 ∨ k = 2 ∨ k = 3 ∨ k = 4 ∨ k = 5 ∨ k = 6 ∨ k = 7 ∨ k = 8 := by omega
  rcases this with rfl | rfl | rfl | rfl | rfl | rfl | rfl | rfl <;> decide +kernel
theorem z_next {k : Nat} (h1 : 1 ≤ k) (h8 : k ≤ 8) : wnextOf (zG k) 0 1 = (List.range k).map fun (i : Nat) => 2 * (i : Int) := by
  have : k = 1 ∨ k = 2 ∨ k = 3 ∨ k = 4 ∨ k = 5 ∨ k = 6 ∨ k = 7 ∨ k = 8 := by omega
  rcases this with rfl | rfl | rfl | rfl | rfl | rfl | rfl | rfl <;> decide +kernel
theorem z_ends {k : Nat} (h1 : 1 ≤ k) (h8 : k ≤ 8) : ∀ i < k, ((zG k).ends (2 * (i : Int))).2.1 = 1 := by
  have : k = 1 ∨ k = 2 ∨ k = 3 ∨ k = 4 ∨ k = 5 ∨ k = 6 ∨ k = 7 ∨ k = 8 := by omega
  rcases this with rfl | rfl | rfl | rfl | rfl | rfl | rfl | rfl <;> decide +kernel
theorem z_seg {k : Nat} (a : Int) : labelBad (zG k) ⟨false, 1⟩ a = false := by simp [labelBad, Gr.isSeg, zG]

theorem zrun {k : Nat} (h1 : 1 ≤ k) (h8 : k ≤ 8) (hash : Int) (strict : Bool) : pickI hash k < k ∧ upRun (zG k) 0 zs hash strict 3 = ⟨[], [2 * (pickI hash k : Int)], 1, 1, 0, 1⟩ := by
  have hp := pickI_lt hash (k := k) (by omega)
  have hlt : pickI hash k < k := by unfold pickI; omega
  refine ⟨hlt, ?_⟩
  let w : Pw := ⟨zG k, hash, [], strict, cutD 3⟩
  have hop : hopOf w ⟨false, 1⟩ 0 = (2 * (pickI hash k : Int), true) := by
    have eh : hopOf w ⟨false, 1⟩ 0 = match (wnextOf (zG k) 0 1)[pickI hash (wnextOf (zG k) 0 1).length]? with
        | some e => (e, true)
        | none => (0, false) := rfl
    rw [eh, z_next h1 h8]
    simp [hlt]
  have s1 : stepOf w noA (pk0 zs 0) = (0, ⟨zs, [2 * (pickI hash k : Int)], 1, 0, 0, 1⟩) := by
    have hl : (pk0 zs 0).l = ⟨false, 1⟩ :: [] := rfl
    have ha : (pk0 zs 0).at_ = 0 := rfl
    have he : (pk0 zs 0).es.length = 0 := rfl
    unfold stepOf
    rw [hl]
    simp only [ha, he, hop]
    rw [if_neg (by decide), if_neg (by decide), show w.g = zG k from rfl, z_seg, if_neg (by decide), if_neg (by decide), show w.down = [] from rfl, isUp_nil, if_pos rfl]
    unfold crossed
    rw [show w.g = zG k from rfl, z_ends h1 h8 _ hlt]
    rfl
  have s2 : stepOf w noA ⟨zs, [2 * (pickI hash k : Int)], 1, 0, 0, 1⟩ = (0, ⟨[], [2 * (pickI hash k : Int)], 1, 0, 0, 1⟩) := rfl
  have s3 : stepOf w noA ⟨[], [2 * (pickI hash k : Int)], 1, 0, 0, 1⟩ = (1, ⟨[], [2 * (pickI hash k : Int)], 1, 0, 0, 1⟩) := rfl
  have key : ∀ f, runOf w noA (f + 1 + 1 + 1) (pk0 zs 0) = ⟨[], [2 * (pickI hash k : Int)], 1, 1, 0, 1⟩ := fun f => by
    have e1 : runOf w noA (f + 1 + 1 + 1) (pk0 zs 0) = runOf w noA (f + 1 + 1) ⟨zs, [2 * (pickI hash k : Int)], 1, 0, 0, 1⟩ := by
      conv => lhs; unfold runOf
      rw [s1, if_pos rfl]
    have e2 : runOf w noA (f + 1 + 1) ⟨zs, [2 * (pickI hash k : Int)], 1, 0, 0, 1⟩ = runOf w noA (f + 1) ⟨[], [2 * (pickI hash k : Int)], 1, 0, 0, 1⟩ := by
      conv => lhs; unfold runOf
      rw [s2, if_pos rfl]
    rw [e1, e2]
    unfold runOf
    rw [s3, if_neg (show ¬ ((1 : Int) = 0) by decide)]
  exact key 255
theorem pick_small {i k : Nat} (h : i < k) : pickI (i : Int) k = i := by
  unfold pickI
  have h1 : ((i : Int)).tmod k = i := Int.tmod_eq_of_lt (by omega) (by omega)
  rw [h1, Int.tmod_eq_emod_of_nonneg (by omega)]
  have : ((i : Int) + k) % k = i := by rw [Int.add_emod_right]; exact Int.emod_eq_of_lt (by omega) (by omega)
  rw [this]
  omega

theorem zlk_append (k : Nat) : (zL k).map Lk.row ++ [[.sc (.int .i64 0), .sc (.int .i64 1), .sc (.int .i64 3), .sc (.int .i64 0)]] = (zL (k + 1)).map Lk.row := by
  unfold zL
  rw [List.replicate_succ', List.map_append]
  rfl
theorem good_out_keep {P : Program} {σ : Store} {f : FuncId} {args xs : List AVal} {r : AVal} {Q : AVal → Store → Prop} (m : Nat) (h : OutL m σ args xs) (hp : PGood P f xs r) (hQ : ∀ τ, (∀ j, j ∉ reachL m σ args → τ.get j = σ.get j) → Q r τ) : Ab.Good P f args σ Q := by
  obtain ⟨ys, h1, h2, h3⟩ := outL_spec h
  refine good_of_pgood m h1 (hp.sub h2 h3) (hQ _ fun j hj => ?_)
  unfold after
  split
  · rfl
  · exact get_frz (by simpa using hj)
theorem used_get {i k : Nat} (h : i < k) : (bools (List.replicate i true ++ List.replicate (k - i) false))[i]? = some [.sc (.bool false)] := by
  refine bools_get ?_
  rw [List.getElem?_append_right (by simp)]
  simp only [List.length_replicate, Nat.sub_self]
  rw [List.getElem?_replicate, if_pos (by omega)]
theorem used_set {i k : Nat} (h : i < k) : (bools (List.replicate i true ++ List.replicate (k - i) false)).set i [.sc (.bool true)] = bools (List.replicate (i + 1) true ++ List.replicate (k - (i + 1)) false) := by
  have : (List.replicate i true ++ List.replicate (k - i) false).set i true = List.replicate (i + 1) true ++ List.replicate (k - (i + 1)) false := by
    rw [List.set_append_right _ _ (by simp)]
    simp only [List.length_replicate, Nat.sub_self]
    rw [show k - i = (k - (i + 1)) + 1 by omega, List.replicate_succ, List.set_cons_zero, List.replicate_succ', List.append_assoc]
    rfl
  rw [← this]
  simp [bools, List.map_set]
def usedL (i k : Nat) : List (List AVal) := bools (List.replicate i true ++ List.replicate (k - i) false)

theorem spreads_ok (ways hash : Int) : PGood Try.prog 6 [.i ways, .i hash] (.b true) := by
  refine pgood_of_out 1 (good_of_wp isF6 (Nat.le_refl _) ?_)
  unfold ac6
  simp only [go_sem, simprocAttr]
  refine good_imm alive_ok rfl ?_
  simp only [go_sem, simprocAttr]
  by_cases h1 : ways < 1
  · simp only [go_sem, simprocAttr, h1]
    exact out_sc
  by_cases h2 : 8 < ways
  · simp only [go_sem, simprocAttr, h1, h2]
    exact out_sc
  simp only [go_sem, simprocAttr, h1, h2]
  obtain ⟨k, rfl⟩ : ∃ k : Nat, ways = k := ⟨ways.toNat, by omega⟩
  have k1 : 1 ≤ k := by omega
  have k8 : k ≤ 8 := by omega
  intro gid hgid
  simp only [go_sem, simprocAttr]
  refine loop_rule (fun m fr σ => ∃ (i : Nat) (v : AVal), i ≤ k ∧ m = k - i ∧ fr = [(0, .i k), (1, .i hash), (6, .ptr gid 0 0 0), (7, .i i)] ∧ σ.get gid = some (.row 0 false 2 [[.sc (.int .i64 2), v]]) ∧ Acc σ 4 v ((zL i).map Lk.row) [gid])
    k ⟨0, .nils, by omega, rfl, rfl, by simp, acc_nils (alive_cons (Store.get_set_self _ _ _) alive_nil)⟩ ?_
  rintro m fr σ ⟨i, v, i1, rfl, rfl, i2, i3⟩
  have r1 := rowAt_get i2
  have hlen : ((zL i).map Lk.row).length = i := by simp [zL]
  simp only [go_sem, simprocAttr]
  refine .intro (fun h3 => ?_) (fun h3 => ?_)
  · simp only [go_sem, simprocAttr, r1]
    intro a ha
    have c := i3.fresh ha (.row 0 false 4 [[.sc (.int .i64 0), .sc (.int .i64 1), .sc (.int .i64 3), .sc (.int .i64 0)]])
    simp only [go_sem, simprocAttr]
    refine acc_append c (by simp only [hlen, List.length_cons, List.length_nil]; omega) (by simp only [hlen, List.length_cons, List.length_nil]; omega) fun w σ2 u1 u2 => ?_
    have g2 : σ2.get gid = some (.row 0 false 2 [[.sc (.int .i64 2), v]]) := by rw [u2 gid (by simp), get_fresh ha (i3.1 gid (by simp)), i2]
    have r2 := rowAt_get g2
    have kn := u1.known
    have hw : IntKind.i64.wrap ((i : Int) + 1) = ((i + 1 : Nat) : Int) := by rw [wrap_id (by omega) (by omega)]; rfl
    simp only [go_sem, simprocAttr, r2, kn, hw]
    refine back_of _ ?_ ⟨i + 1, w, by omega, rfl, rfl, by simp, ?_⟩
    · omega
    · rw [← zlk_append]
      exact (u1.less fun x hx => List.mem_cons_of_mem _ hx).other (by simp) _
  · have ei : i = k := by omega
    subst ei
    simp only [go_sem, simprocAttr, r1]
    have t1 := tables_ok (zG i)
    have hx : tabsOf (zG i) = .tup [(zG i).tab, (zG i).rtab, .b true] := if_pos (z_ok k1 k8)
    rw [hx] at t1
    have hok : (zG i).Ok := (zG i).check_ok.1 (z_ok k1 k8)
    refine good_out_any 4 (outL1 (x := (zG i).val) (out_agg (m := 3) (cs := [.i 2, v]) (ds := [.i 2, .lst ((zL i).map Lk.row)]) ⟨out_sc, acc_out i3 (links_sc _), trivial⟩)) t1 ?_
    rintro τ -
    have hmk : (0 : Int) ≤ i ∧ (i : Int) ≤ 9223372036854775807 ∧ ((i : Int)).toNat * 1 ≤ 281474976710656 := by omega
    simp only [go_sem, simprocAttr, hmk]
    refine ⟨by omega, ?_⟩
    intro uid huid
    simp only [go_sem, simprocAttr]
    have hrep : List.replicate i [AVal.sc (Value.bool false)] = usedL 0 i := by simp [usedL, bools]
    rw [hrep]
    refine loop_rule (fun m fr σ => ∃ j : Nat, j ≤ i ∧ m = i - j ∧ fr = [(0, .i i), (1, .i hash), (8, (zG i).tab), (11, .sl uid 0 0 i 1), (12, .i j)] ∧ σ.get uid = some (.row 0 false 1 (usedL j i))) i
      ⟨0, by omega, rfl, rfl, by simp⟩ ?_
    rintro m fr σ ⟨j, j1, rfl, rfl, j2⟩
    have ru := rowAt_get j2
    simp only [go_sem, simprocAttr]
    refine .intro (fun h4 => ?_) (fun h4 => ?_)
    · have hj : j < i := by omega
      simp only [go_sem, simprocAttr]
      intro s hs
      simp only [go_sem, simprocAttr]
      obtain ⟨_, hz⟩ := zrun k1 k8 (j : Int) false
      rw [pick_small hj] at hz
      have w2 := up_run_ok (zG i) hok 0 zs j false 3 (by decide) (show (0 : Int) ≤ 0 ∧ (0 : Int) < 2 by decide)
      rw [hz] at w2
      have rs : Ab.rowAt (σ.set s (.row 0 false 2 [[.sc (.bool false), .sc (.int .i64 1)]])) s 0 = some (false, 2, [[.sc (.bool false), .sc (.int .i64 1)]]) := rowAt_self
      have hne : uid ≠ s := fun e => by rw [← e, j2] at hs; cases hs
      refine good_out_keep (xs := [(zG i).tab, .i 0, .lst (segs zs), .i j, .lst (bools []), .b false, .i 3]) 4 ⟨out_imm rfl, out_sc, out_sl rs (by simp) rfl (segs_sc zs), out_sc, out_nils, out_sc, out_sc, trivial⟩ w2 ?_
      intro υ hυ
      have gu : υ.get uid = some (.row 0 false 1 (usedL j i)) := by
        rw [hυ uid ?_, Store.get_set_ne _ _ hne, j2]
        simp [reachL, reach, Gr.tab, rs]
        exact hne
      simp only [go_sem, simprocAttr, walkVal]
      intro x hx
      have rx : Ab.rowAt (υ.set x (.row 0 false 5 [[.lst (ints [2 * (j : Int)]), .sc (.int .i64 1), .sc (.int .i64 1), .sc (.int .i64 0), .sc (.int .i64 1)]])) x 0 = some (false, 5, [[.lst (ints [2 * (j : Int)]), .sc (.int .i64 1), .sc (.int .i64 1), .sc (.int .i64 0), .sc (.int .i64 1)]]) := rowAt_self
      have hnx : uid ≠ x := fun e => by rw [← e, gu] at hx; cases hx
      have rux : ∀ o, Ab.rowAt (υ.set x o) uid 0 = some (false, 1, usedL j i) := fun o => by rw [rowAt_ne hnx]; exact rowAt_get gu
      have hq : IntKind.i64.wrap ((2 * (j : Int)).tdiv 2) = j := by
        rw [Int.tdiv_eq_ediv_of_nonneg (by omega)]
        rw [wrap_id (by omega) (by omega)]; omega
      have hin : ints [2 * (j : Int)] = [[.sc (.int .i64 (2 * (j : Int)))]] := rfl
      have n1 : ¬ (2 * (j : Int) < 0) := by omega
      have n2 : ¬ ((i : Int) ≤ j) := by omega
      have n3 : (0 : Int) ≤ j := by omega
      have n4 : (j : Int) < i := by omega
      have ug := used_get hj
      have us := used_set hj
      have hw : IntKind.i64.wrap ((j : Int) + 1) = ((j + 1 : Nat) : Int) := by rw [wrap_id (by omega) (by omega)]; rfl
      simp only [go_sem, simprocAttr, hin, rux, hq, n1, n2, n3, n4, usedL, ug]
      rw [us, hw]
      refine back_of _ ?_ ⟨j + 1, by omega, rfl, rfl, by simp [usedL]⟩
      omega
    · simp only [go_sem, simprocAttr]
      generalize hR : (⟨[], [2 * (pickI hash i : Int)], 1, 1, 0, 1⟩ : Pk) = R
      have e1 : upRun (zG i) 0 zs hash false 3 = R := hR ▸ (zrun k1 k8 hash false).2
      have e2 : upRun (zG i) 0 zs hash true 3 = R := hR ▸ (zrun k1 k8 hash true).2
      have w1 := up_run_ok (zG i) hok 0 zs hash false 3 (by decide) (show (0 : Int) ≤ 0 ∧ (0 : Int) < 2 by decide)
      have w2 := up_run_ok (zG i) hok 0 zs hash true 3 (by decide) (show (0 : Int) ≤ 0 ∧ (0 : Int) < 2 by decide)
      rw [e1] at w1
      rw [e2] at w2
      have efin : R.fin = 1 := by rw [← hR]
      have elen : R.es.length < 1000000000 := by rw [← hR]; show 1 < 1000000000; omega
      intro s1 hs1
      simp only [go_sem, simprocAttr]
      have rs1 : Ab.rowAt (σ.set s1 (.row 0 false 2 [[.sc (.bool false), .sc (.int .i64 1)]])) s1 0 = some (false, 2, [[.sc (.bool false), .sc (.int .i64 1)]]) := rowAt_self
      refine good_out_any (xs := [(zG i).tab, .i 0, .lst (segs zs), .i hash, .lst (bools []), .b false, .i 3]) 4 ⟨out_imm rfl, out_sc, out_sl rs1 (by simp) rfl (segs_sc zs), out_sc, out_nils, out_sc, out_sc, trivial⟩ w1 ?_
      rintro υ -
      simp only [go_sem, simprocAttr, walkVal]
      intro x hx
      simp only [go_sem, simprocAttr]
      intro s2 hs2
      simp only [go_sem, simprocAttr]
      have rs2 : ∀ υ' : Store, Ab.rowAt (υ'.set s2 (.row 0 false 2 [[.sc (.bool false), .sc (.int .i64 1)]])) s2 0 = some (false, 2, [[.sc (.bool false), .sc (.int .i64 1)]]) := fun υ' => rowAt_self
      have gx : (υ.set x (.row 0 false 5 [[.lst (ints R.es), .sc (.int .i64 R.at_), .sc (.int .i64 R.fin), .sc (.int .i64 R.ar), .sc (.int .i64 R.most)]])).get x = some (.row 0 false 5 [[.lst (ints R.es), .sc (.int .i64 R.at_), .sc (.int .i64 R.fin), .sc (.int .i64 R.ar), .sc (.int .i64 R.most)]]) := by simp
      generalize υ.set x (.row 0 false 5 [[.lst (ints R.es), .sc (.int .i64 R.at_), .sc (.int .i64 R.fin), .sc (.int .i64 R.ar), .sc (.int .i64 R.most)]]) = υ1 at *
      have hxs : x ≠ s2 := fun e => by rw [← e, gx] at hs2; cases hs2
      have rx2 : Ab.rowAt (υ1.set s2 (.row 0 false 2 [[.sc (.bool false), .sc (.int .i64 1)]])) x 0 = some (false, 5, [[.lst (ints R.es), .sc (.int .i64 R.at_), .sc (.int .i64 R.fin), .sc (.int .i64 R.ar), .sc (.int .i64 R.most)]]) := by rw [rowAt_ne hxs]; exact rowAt_get gx
      refine good_out_any (xs := [(zG i).tab, .i 0, .lst (segs zs), .i hash, .lst (bools []), .b true, .i 3]) 4 ⟨out_imm rfl, out_sc, out_sl (rs2 _) (by simp) rfl (segs_sc zs), out_sc, out_nils, out_sc, out_sc, trivial⟩ w2 ?_
      rintro υ2 ⟨p, rfl⟩
      have rx3 := rowAt_freeze (p := p) rx2
      generalize (υ1.set s2 (.row 0 false 2 [[.sc (.bool false), .sc (.int .i64 1)]])).freeze p = υ2 at *
      simp only [go_sem, simprocAttr, walkVal]
      intro y hy
      have rx4 := fun o => (rowAt_fresh (o := o) hy (j := x) (ver := 0) (by rw [rx3]; rfl)).trans rx3
      simp only [go_sem, simprocAttr, rx4]
      refine good_imm (same_walk_ok R R elen rfl) rfl ?_
      simp only [go_sem, simprocAttr, rx4, efin]
      exact out_sc
end Go.Proofs
