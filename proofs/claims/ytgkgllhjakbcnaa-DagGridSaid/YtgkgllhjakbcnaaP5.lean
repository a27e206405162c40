/- A part of the proof: lemmas alone, no statement. -/
import Derived.Test.YtgkgllhjakbcnaaP4
import Derived.Test.YtgkgllhjakbcnaaRows
import Derived.Test.YtgkgllhjakbcnaaP2
import Derived.ProofKit
import Derived.OpenShut
set_option linter.unusedVariables false
set_option linter.unusedSimpArgs false
set_option linter.unnecessarySimpa false
set_option linter.unusedSectionVars false
set_option linter.unusedSimpArgs false
set_option linter.unusedVariables false
namespace Go.Proofs
open Go.Ab

section
variable {g : Gr} {down : List Bool} {from_ to : Int} {d : List Int}
theorem rch_mem {nx : Int → List Int} {N : List Int} (h : VFin g nx from_ N) {x : Int} (hx : Rch g nx from_ x) : x ∈ N := by
  induction hx with
  | refl => exact h.src
  | step _ he ih => exact h.closed _ ih _ he
theorem rch_pos (hg : g.Ok) (h0 : 0 ≤ at0 d from_) {x : Int} (hx : Rch g (nextOf g down d) from_ x) : 0 ≤ at0 d x := by
  induction hx with
  | refl => exact h0
  | step _ he ih => exact (nextOf_mem hg he).2.2.2.1
theorem to_mem (hg : g.Ok) (hd : IsDist g down to d) {N : List Int} (h : VFin g (nextOf g down d) from_ N) (h0 : 0 ≤ at0 d from_) : ∀ (k : Nat) (x : Int), (at0 d x).toNat ≤ k → x ∈ N → to ∈ N := by
  intro k
  induction k with
  | zero =>
    intro x hk hx
    rcases next_some hg hd (h.rng x hx) (rch_pos hg h0 (h.reach x hx)) with ⟨h1, _⟩ | ⟨e, he⟩
    · rw [← h1]; exact hx
    · obtain ⟨_, _, _, e5, e6, e7, _⟩ := nextOf_mem hg he
      omega
  | succ k ih =>
    intro x hk hx
    rcases next_some hg hd (h.rng x hx) (rch_pos hg h0 (h.reach x hx)) with ⟨h1, _⟩ | ⟨e, he⟩
    · rw [← h1]; exact hx
    · obtain ⟨_, _, _, e5, e6, e7, _⟩ := nextOf_mem hg he
      exact ih _ (by omega) (h.closed x hx e he)
end

theorem dag_eq (g : Gr) (down : List Bool) (from_ to : Int) : countOf g down from_ to = (waysOf g down from_ to).1 ∧ hopsOf g down from_ to = (waysOf g down from_ to).2 := by
  unfold countOf hopsOf waysOf
  have bnil := refFrom_nil (g := g) (down := down) (node := to)
  have bdist : g.check.2 = 0 → (0 ≤ to ∧ to < g.n) → IsDist g down to (refFrom g down to) := fun h1 h2 => refFrom_dist (g.check_ok.1 h1) h2
  generalize refFrom g down to = d at *
  by_cases hc : d ≠ [] ∧ (0 ≤ from_ ∧ from_ < g.n) ∧ 0 ≤ at0 d from_
  case neg => rw [if_neg hc, if_neg hc, if_neg hc]; exact ⟨rfl, rfl⟩
  rw [if_pos hc, if_pos hc, if_pos hc]
  obtain ⟨hb, hn, hge⟩ := hc
  have gb : g.check.2 = 0 ∧ 0 ≤ to ∧ to < g.n := Decidable.byContradiction fun h => hb (bnil.2 h)
  have hg := g.check_ok.1 gb.1
  have hd := bdist gb.1 gb.2
  have hfin := nodesOf_fin (nx := nextOf g down d) hn (fun x e he => (nextOf_mem hg he).2.2.1)
  generalize nodesOf g (nextOf g down d) from_ = N at *
  have hk : g.n.toNat - 1 + 1 = g.n.toNat := by omega
  have hperm := sortNd_perm (far := d) (k := g.n.toNat - 1) (nodes := N) (fun x hx => by have := hfin.rng x hx; omega)
  have hsort := sortNd_sorted (far := d) (k := g.n.toNat - 1) (nodes := N)
  generalize sortNd d (g.n.toNat - 1) N = S at *
  have hto : to ∈ S := hperm.mem_iff.2 (to_mem hg hd hfin hge _ from_ (Nat.le_refl _) hfin.src)
  obtain ⟨c1, c2, c3⟩ := cnt_bks hg hd _ from_ (Nat.le_refl _) hn hge
  have hfn : from_.toNat < g.n.toNat := by omega
  have hrel : DRel g (fun v => if v = from_ then [0] else []) ((List.replicate g.n.toNat 0).set from_.toNat 1) (hop0 g from_) := by
    refine ⟨by simp, by simp [hop0], by simp [hop0], fun v v0 v1 => ?_, fun v v0 v1 => ?_, fun v v0 v1 => ?_⟩
    · rw [at0_set' (by simp) hn v0]
      by_cases e : v = from_
      · rw [if_pos e, if_pos e]; rfl
      · have : v.toNat < g.n.toNat := by omega
        rw [if_neg e, if_neg e]
        simp [this]; rfl
    · unfold hop0
      rw [at0_set' (by simp) hn v0]
      by_cases e : v = from_
      · rw [if_pos e, if_pos e]; simp [lo]
      · have : v.toNat < g.n.toNat := by omega
        rw [if_neg e, if_neg e]
        simp [this, lo]; omega
    · unfold hop0
      have : v.toNat < g.n.toNat := by omega
      by_cases e : v = from_
      · rw [if_pos e]; simp [this, hi]
      · rw [if_neg e]; simp [this, hi]
  obtain ⟨r1, r2, r3⟩ := dag_run hg hd (bks g down d from_) S _ _ _ (hperm.nodup_iff.2 hfin.nodup) hsort (fun x hx => ⟨hfin.rng x (hperm.mem_iff.1 hx), rch_pos hg hge (hfin.reach x (hperm.mem_iff.1 hx))⟩)
    (fun x hx e he => hperm.mem_iff.2 (hfin.closed x (hperm.mem_iff.1 hx) e he))
    (fun v hv => by
      have hr := hfin.reach v (hperm.mem_iff.1 hv)
      cases hr with
      | refl => left; simp
      | step hx he => exact .inr ⟨_, hperm.mem_iff.2 (rch_mem hfin hx), _, he, rfl⟩) hrel
    (fun φ => by
      have h1 := sm_upd (fun _ : Int => 0) (wt (bks g down d) (fun v => if v = from_ then [0] else []) φ) from_ (sm φ (bks g down d from_)) (by simp [wt, sm]) (fun x hx => by simp [wt, sm, hx]) S (hperm.nodup_iff.2 hfin.nodup) (hperm.mem_iff.2 hfin.src)
      rw [h1, sm_zero, Nat.zero_add]) hto
  exact ⟨by rw [r1, ← c1], by rw [r2, r3, ← c2, ← c3]⟩
end Go.Proofs

set_option linter.unusedSimpArgs false
set_option linter.unusedVariables false
namespace Go.Proofs
open Go.Ab

section
variable {g : Gr} {down : List Bool} {from_ to : Int} {a b : List Int}
theorem closed_rev (hg : g.Ok) (hb : IsDist g down to b) {k : Int} (hk : Use g down k) (h : 0 ≤ at0 b (g.ends k).2.1) : 0 ≤ at0 b (g.ends k).1 ∧ at0 b (g.ends k).1 ≤ at0 b (g.ends k).2.1 + g.metric k := by
  obtain ⟨k0, k1, k2⟩ := hk
  obtain ⟨r1, r2, r3, r4, r5, r6⟩ := rev_ends g k0 k1
  have := hb.closed (rev k) ⟨r1, r2, by rw [rev_up (g := g) k0 k1]; exact k2⟩ (by rw [r3]; exact h)
  rw [r3, r4, r5] at this
  exact this
theorem dist_tri (hg : g.Ok) (ha : IsDist g down from_ a) (hb : IsDist g down to b) : ∀ (N : Nat) (x : Int), (at0 b x).toNat ≤ N → 0 ≤ x ∧ x < g.n → 0 ≤ at0 a x → 0 ≤ at0 b x → 0 ≤ at0 a to ∧ at0 a to ≤ at0 a x + at0 b x := by
  intro N
  induction N with
  | zero =>
    intro x hN hx h1 h2
    rcases hb.reach x hx.1 hx.2 h2 with ⟨rfl, h3⟩ | ⟨k, hk, e1, e2, e3⟩
    · omega
    · obtain ⟨m1, _⟩ := g.metric_of hg hk.1 hk.2.1
      omega
  | succ N ih =>
    intro x hN hx h1 h2
    rcases hb.reach x hx.1 hx.2 h2 with ⟨rfl, h3⟩ | ⟨k, hk, e1, e2, e3⟩
    · omega
    · obtain ⟨m1, _⟩ := g.metric_of hg hk.1 hk.2.1
      obtain ⟨v1, v2, _⟩ := g.ends_of hg hk.1 hk.2.1
      have h4 := closed_rev hg ha hk (by rw [e1]; exact h1)
      rw [e1] at h4
      have := ih (g.ends k).1 (by omega) v1 h4.1 e2
      omega
theorem dist_sym (hg : g.Ok) (ha : IsDist g down from_ a) (hb : IsDist g down to b) (hf : 0 ≤ from_ ∧ from_ < g.n) (ht : 0 ≤ to ∧ to < g.n) : (0 ≤ at0 a to ↔ 0 ≤ at0 b from_) ∧ (0 ≤ at0 a to → at0 a to = at0 b from_) := by
  have h1 : 0 ≤ at0 b from_ → 0 ≤ at0 a to ∧ at0 a to ≤ at0 b from_ := fun h => by
    have := dist_tri hg ha hb _ from_ (Nat.le_refl _) hf (by rw [ha.src]; exact Int.le_refl _) h
    rw [ha.src] at this
    omega
  have h2 : 0 ≤ at0 a to → 0 ≤ at0 b from_ ∧ at0 b from_ ≤ at0 a to := fun h => by
    have := dist_tri hg hb ha _ to (Nat.le_refl _) ht (by rw [hb.src]; exact Int.le_refl _) h
    rw [hb.src] at this
    omega
  refine ⟨⟨fun h => (h2 h).1, fun h => (h1 h).1⟩, fun h => ?_⟩
  have := h2 h
  have := h1 this.1
  omega
/-- Where a node lies on a shortest way. -/
theorem rch_sum (hg : g.Ok) (ha : IsDist g down from_ a) (hb : IsDist g down to b) (hf : 0 ≤ from_ ∧ from_ < g.n) (h0 : 0 ≤ at0 b from_) (hs : at0 a to = at0 b from_) {x : Int} (hx : Rch g (nextOf g down b) from_ x) :
    (0 ≤ x ∧ x < g.n) ∧ 0 ≤ at0 a x ∧ 0 ≤ at0 b x ∧ at0 a x + at0 b x = at0 a to := by
  induction hx with
  | refl => rw [ha.src]; exact ⟨hf, Int.le_refl _, h0, by omega⟩
  | @step x e _ he ih =>
    obtain ⟨⟨k0, k1⟩, e3, e4, e5, e6, e7, e8⟩ := nextOf_mem hg he
    have hc := ha.closed e ⟨k0, k1, e8⟩ (by rw [e3]; exact ih.2.1)
    rw [e3] at hc
    have ht := dist_tri hg ha hb _ (g.ends e).2.1 (Nat.le_refl _) e4 hc.1 e5
    exact ⟨e4, hc.1, e5, by omega⟩
theorem sum_rch (hg : g.Ok) (ha : IsDist g down from_ a) (hb : IsDist g down to b) : ∀ (N : Nat) (x : Int), (at0 a x).toNat ≤ N → (0 ≤ x ∧ x < g.n) → 0 ≤ at0 a x → 0 ≤ at0 b x → at0 a x + at0 b x = at0 a to → Rch g (nextOf g down b) from_ x := by
  intro N
  induction N with
  | zero =>
    intro x hN hx h1 h2 h3
    rcases ha.reach x hx.1 hx.2 h1 with ⟨rfl, _⟩ | ⟨k, hk, e1, e2, e3⟩
    · exact .refl
    · obtain ⟨m1, _⟩ := g.metric_of hg hk.1 hk.2.1
      omega
  | succ N ih =>
    intro x hN hx h1 h2 h3
    rcases ha.reach x hx.1 hx.2 h1 with ⟨rfl, _⟩ | ⟨k, hk, e1, e2, e3⟩
    · exact .refl
    · obtain ⟨m1, _⟩ := g.metric_of hg hk.1 hk.2.1
      obtain ⟨v1, v2, _⟩ := g.ends_of hg hk.1 hk.2.1
      have h4 := closed_rev hg hb hk (by rw [e1]; exact h2)
      rw [e1] at h4
      have h5 := dist_tri hg ha hb _ (g.ends k).1 (Nat.le_refl _) v1 e2 h4.1
      have hu := ih (g.ends k).1 (by omega) v1 e2 h4.1 (by omega)
      rw [← e1]
      exact .step hu (mem_nextOf hg hb.len v1 (by omega) hk.1 hk.2.1 rfl hk.2.2 (by rw [e1]; exact h2) (by rw [e1]; omega))
end

theorem sorted_eq : ∀ {l m : List Int}, l.Pairwise (· ≤ ·) → m.Pairwise (· ≤ ·) → l.Perm m → l = m
  | [], m, _, _, h => (List.nil_perm.1 h).symm
  | x :: r, [], _, _, h => absurd h.symm (fun h => by have := List.nil_perm.1 h; cases this)
  | x :: r, y :: q, hl, hm, h => by
    obtain ⟨l1, l2⟩ := List.pairwise_cons.1 hl
    obtain ⟨m1, m2⟩ := List.pairwise_cons.1 hm
    have e : x = y := by
      have h1 : x ∈ y :: q := h.mem_iff.1 (by simp)
      have h2 : y ∈ x :: r := h.mem_iff.2 (by simp)
      have h3 : y ≤ x := by
        rcases List.mem_cons.1 h1 with h1 | h1
        · omega
        · exact m1 x h1
      have h4 : x ≤ y := by
        rcases List.mem_cons.1 h2 with h2 | h2
        · omega
        · exact l1 y h2
      omega
    subst e
    rw [sorted_eq l2 m2 (List.perm_cons x |>.1 h)]
theorem sortI_sorted (l : List Int) : (sortI l).Pairwise (· ≤ ·) := by
  have := List.pairwise_mergeSort (le := fun x y : Int => decide (x ≤ y)) (fun a b c h1 h2 => by simp only [decide_eq_true_eq] at *; omega) (fun a b => by simp only [Bool.or_eq_true, decide_eq_true_eq]; omega) l
  exact this.imp fun h => by simpa using h
theorem sortI_perm (l : List Int) : (sortI l).Perm l := List.mergeSort_perm l _
theorem upto_sorted (n : Nat) : (upto n).Pairwise (· < ·) := by
  unfold upto
  rw [List.pairwise_map]
  exact List.pairwise_lt_range.imp fun h => by omega
theorem upto_mem {n : Nat} {k : Int} : k ∈ upto n ↔ 0 ≤ k ∧ k < n := by
  unfold upto
  rw [List.mem_map]
  constructor
  · rintro ⟨i, hi, rfl⟩
    have := List.mem_range.1 hi
    omega
  · rintro ⟨h1, h2⟩
    exact ⟨k.toNat, List.mem_range.2 (by omega), by omega⟩
theorem out_nodup (g : Gr) (x : Int) : (g.out x).Nodup := by
  unfold Gr.out Gr.outN
  refine List.Pairwise.filterMap _ (R := fun a b : Nat => a ≠ b) (fun a a' hne b hb b' hb' => ?_) List.nodup_range
  split at hb
  · split at hb'
    · simp only [Option.some.injEq] at hb hb'; omega
    · simp at hb'
  · simp at hb
theorem next_nodup (g : Gr) (down : List Bool) (d : List Int) (x : Int) : (nextOf g down d x).Nodup := by
  unfold nextOf
  split
  · exact (out_nodup g x).filter _
  · exact List.nodup_nil
theorem flatN_mem {nx : Int → List Int} {N : List Int} {n : Nat} {e : Int} : e ∈ flatN nx N n ↔ ∃ i : Nat, i < n ∧ (i : Int) ∈ N ∧ e ∈ nx i := by
  unfold flatN
  rw [List.mem_flatMap]
  constructor
  · rintro ⟨i, hi, he⟩
    split at he
    · rename_i h; exact ⟨i, List.mem_range.1 hi, h, he⟩
    · cases he
  · rintro ⟨i, hi, h, he⟩
    exact ⟨i, List.mem_range.2 hi, by rw [if_pos h]; exact he⟩
theorem flatN_nodup {g : Gr} (hg : g.Ok) {down : List Bool} {d : List Int} {N : List Int} : ∀ n, (flatN (nextOf g down d) N n).Nodup
  | 0 => by simp [flatN]
  | n + 1 => by
    rw [flatN_succ, List.nodup_append]
    refine ⟨flatN_nodup hg n, ?_, fun a ha b hb e => ?_⟩
    · split
      · exact next_nodup _ _ _ _
      · exact List.nodup_nil
    · subst e
      obtain ⟨i, hi, _, he⟩ := flatN_mem.1 ha
      split at hb
      · have h1 := (nextOf_mem hg he).2.1
        have h2 := (nextOf_mem hg hb).2.1
        rw [h1] at h2
        omega
      · cases hb

theorem duses_eq (g : Gr) (down : List Bool) (from_ to : Int) : dusesOf g down from_ to = usesOf g down from_ to := by
  unfold dusesOf usesOf
  have bnil := refFrom_nil (g := g) (down := down) (node := to)
  have anil := refFrom_nil (g := g) (down := down) (node := from_)
  have bdist : g.check.2 = 0 → (0 ≤ to ∧ to < g.n) → IsDist g down to (refFrom g down to) := fun h1 h2 => refFrom_dist (g.check_ok.1 h1) h2
  have adist : g.check.2 = 0 → (0 ≤ from_ ∧ from_ < g.n) → IsDist g down from_ (refFrom g down from_) := fun h1 h2 => refFrom_dist (g.check_ok.1 h1) h2
  generalize refFrom g down to = b at *
  generalize refFrom g down from_ = a at *
  by_cases hc : g.check.2 = 0
  case neg =>
    rw [if_neg (fun h => h.1 (bnil.2 fun h2 => hc h2.1)), if_pos (.inl (anil.2 fun h2 => hc h2.1))]
  by_cases hf : 0 ≤ from_ ∧ from_ < g.n
  case neg =>
    rw [if_neg (fun h => hf h.2.1), if_pos (.inl (anil.2 fun h2 => hf h2.2))]
  by_cases ht : 0 ≤ to ∧ to < g.n
  case neg =>
    rw [if_neg (fun h => h.1 (bnil.2 fun h2 => ht h2.2)), if_pos (.inr (.inl (bnil.2 fun h2 => ht h2.2)))]
  have hg := g.check_ok.1 hc
  have ha := adist hc hf
  have hb := bdist hc ht
  obtain ⟨s1, s2⟩ := dist_sym hg ha hb hf ht
  have hbn : b ≠ [] := fun h => (bnil.1 h) ⟨hc, ht⟩
  have han : a ≠ [] := fun h => (anil.1 h) ⟨hc, hf⟩
  by_cases h0 : 0 ≤ at0 a to
  case neg =>
    rw [if_neg (fun h => h0 (s1.2 h.2.2)), if_pos (.inr (.inr (by omega)))]
  have hb0 := s1.1 h0
  have hs := s2 h0
  rw [if_pos ⟨hbn, hf, hb0⟩, if_neg (fun h => h.elim han fun h => h.elim hbn fun h => by omega)]
  have hfin := nodesOf_fin (nx := nextOf g down b) hf (fun x e he => (nextOf_mem hg he).2.2.1)
  generalize nodesOf g (nextOf g down b) from_ = N at *
  refine sorted_eq (sortI_sorted _) (((upto_sorted _).filter _).imp fun h => by omega) ((sortI_perm _).trans ?_)
  refine (List.perm_ext_iff_of_nodup (flatN_nodup hg _) (((upto_sorted _).imp fun h => by omega).filter _)).2 fun e => ?_
  rw [flatN_mem, List.mem_filter, upto_mem]
  unfold usesCond
  rw [Bool.and_eq_true, Bool.and_eq_true, Bool.and_eq_true, decide_eq_true_eq, decide_eq_true_eq, decide_eq_true_eq]
  constructor
  · rintro ⟨i, hi, hm, he⟩
    obtain ⟨⟨k0, k1⟩, e3, e4, e5, e6, e7, e8⟩ := nextOf_mem hg he
    obtain ⟨_, x1, x2, x3⟩ := rch_sum hg ha hb hf hb0 hs (hfin.reach _ hm)
    rw [e3]
    refine ⟨⟨k0, by omega⟩, ?_, x1, e5, by omega⟩
    rw [← up_down down e k0]; exact e8
  · rintro ⟨⟨k0, k1⟩, hd, x1, x2, x3⟩
    have k1' : e < 2 * (g.ls.length : Int) := by omega
    have hu : isUp down e = true := by rw [up_down down e k0]; exact hd
    obtain ⟨v1, v2, _⟩ := g.ends_of hg k0 k1'
    obtain ⟨m1, _⟩ := g.metric_of hg k0 k1'
    have h4 := closed_rev hg hb ⟨k0, k1', hu⟩ x2
    have h5 := dist_tri hg ha hb _ (g.ends e).1 (Nat.le_refl _) v1 x1 h4.1
    have e1 : (((g.ends e).1.toNat : Nat) : Int) = (g.ends e).1 := by omega
    refine ⟨(g.ends e).1.toNat, by omega, ?_, ?_⟩
    · rw [e1]; exact rch_mem hfin (sum_rch hg ha hb _ _ (Nat.le_refl _) v1 x1 h4.1 (by omega))
    · rw [e1]; exact mem_nextOf hg hb.len v1 (by omega) k0 k1' rfl hu x2 (by omega)
end Go.Proofs

set_option linter.unusedSimpArgs false
set_option linter.unusedVariables false
namespace Go.Proofs
open Go.Ab

theorem out_agg2 {σ : Store} {m : Nat} {a b c d : AVal} (h1 : Out m σ a c) (h2 : Out m σ b d) : Out (m + 1) σ (.agg [a, b]) (.agg [c, d]) := by
  obtain ⟨y, h1, h1'⟩ := h1
  obtain ⟨z, h2, h2'⟩ := h2
  refine ⟨.agg [y, z], by simp [snap, mapO, h1, h2], sub_agg rfl fun i x y hx hy => ?_⟩
  match i with
  | 0 => simp at hx hy; subst hx hy; exact h1'
  | 1 => simp at hx hy; subst hx hy; exact h2'
  | i + 2 => simp at hx
theorem good_out_any {P : Program} {σ : Store} {f : FuncId} {args xs : List AVal} {r : AVal} {Q : AVal → Store → Prop} (m : Nat) (h : OutL m σ args xs) (hp : PGood P f xs r) (hQ : ∀ τ, (∃ p, τ = σ.freeze p) → Q r τ) : Ab.Good P f args σ Q := by
  obtain ⟨ys, h1, h2, h3⟩ := outL_spec h
  refine good_of_pgood m h1 (hp.sub h2 h3) (hQ _ ?_)
  unfold after
  split
  · exact ⟨fun _ => false, Store.ext fun i => by
      rw [Store.get_freeze]
      cases hg : σ.get i with
      | none => rfl
      | some o => cases o <;> simp⟩
  · exact ⟨_, rfl⟩
theorem links_sc (l : List Lk) : ∀ y ∈ l.map Lk.row, ∀ c ∈ y, ∃ v, c = .sc v := by
  intro y hy c hc
  obtain ⟨k, _, rfl⟩ := List.mem_map.1 hy
  simp only [Lk.row, List.mem_cons, List.not_mem_nil, or_false] at hc
  rcases hc with rfl | rfl | rfl | rfl <;> exact ⟨_, rfl⟩
theorem gr_out {σ : Store} {n : Int} {ls : List Lk} {id ver off len : Nat} {fz : Bool} {xs : List (List AVal)} (h : Ab.rowAt σ id ver = some (fz, 4, xs)) (hl : off + len ≤ xs.length) (hy : (xs.drop off).take len = ls.map Lk.row) : Out 3 σ (.agg [.i n, .sl id ver off len 4]) (Gr.val ⟨n, ls⟩) :=
  out_agg2 out_sc (out_sl (m := 0) h hl hy (links_sc ls))

def exG : Gr := ⟨2, [⟨0, 1, 7, 0⟩, ⟨0, 1, 7, 0⟩]⟩
theorem ex1 : waysOf exG [] 0 1 = (2, 1, 1, true) := by decide +kernel
theorem ex2 : waysOf ⟨1, []⟩ [] 0 0 = (1, 0, 0, true) := by decide +kernel
theorem ex3 : usesOf exG [] 0 1 = [0, 2] := by decide +kernel
theorem ex1c : countOf exG [] 0 1 = 2 := by rw [(dag_eq _ _ _ _).1, ex1]
theorem ex2c : countOf ⟨1, []⟩ [] 0 0 = 1 := by rw [(dag_eq _ _ _ _).1, ex2]
theorem ex1h : hopsOf exG [] 0 1 = (1, 1, true) := by rw [(dag_eq _ _ _ _).2, ex1]
theorem ex3u : dusesOf exG [] 0 1 = [0, 2] := by rw [duses_eq, ex3]

theorem alive_ok : PGood Try.prog 7 [] (.b true) := by
  refine pgood_of_out 2 (good_of_wp isF7 (Nat.le_refl _) ?_)
  unfold ac7
  simp only [go_sem, simprocAttr]
  intro lid hlid
  simp only [go_sem, simprocAttr]
  intro gid hgid
  have a1 : lid ≠ gid := fun e => by rw [← e] at hgid; simp at hgid
  have hrow : ∀ o, Ab.rowAt ((Store.empty.set lid (.row 0 false 4 [[.sc (.int .i64 0), .sc (.int .i64 1), .sc (.int .i64 7), .sc (.int .i64 0)], [.sc (.int .i64 0), .sc (.int .i64 1), .sc (.int .i64 7), .sc (.int .i64 0)]])).set gid o) lid 0 = some (false, 4, [[.sc (.int .i64 0), .sc (.int .i64 1), .sc (.int .i64 7), .sc (.int .i64 0)], [.sc (.int .i64 0), .sc (.int .i64 1), .sc (.int .i64 7), .sc (.int .i64 0)]]) := fun o => by rw [rowAt_ne a1, rowAt_self]
  simp only [go_sem, simprocAttr]
  refine good_out 3 (outL4 (gr_out (n := 2) (ls := exG.ls) (hrow _) (by decide) rfl) out_nils out_sc out_sc) (hops_ok exG [] 0 1) rfl ?_
  rw [ex1h]
  simp only [go_sem, simprocAttr]
  refine good_out 3 (outL4 (out_agg2 (c := .i 1) (d := .lst []) out_sc out_nils) out_nils out_sc out_sc) (count_ok ⟨1, []⟩ [] 0 0) rfl ?_
  rw [ex2c]
  simp only [go_sem, simprocAttr]
  refine good_out 3 (outL4 (gr_out (n := 2) (ls := exG.ls) (hrow _) (by decide) rfl) out_nils out_sc out_sc) (count_ok exG [] 0 1) rfl ?_
  rw [ex1c]
  simp only [go_sem, simprocAttr]
  refine good_out_any 3 (outL4 (gr_out (n := 2) (ls := exG.ls) (hrow _) (by decide) rfl) out_nils out_sc out_sc) (duses_ok exG [] 0 1) fun τ _ => ?_
  rw [ex3u]
  simp only [go_sem, simprocAttr]
  exact out_sc

theorem dagTells_ok (g : Gr) (down : List Bool) (from_ to : Int) : PGood Try.prog 3 [g.val, .lst (bools down), .i from_, .i to] (.b true) := by
  refine pgood_of_out 2 (good_of_wp isF3 (Nat.le_refl _) ?_)
  unfold ac3
  simp only [go_sem, simprocAttr, Gr.val]
  intro gid hgid
  simp only [go_sem, simprocAttr]
  refine good_imm alive_ok rfl ?_
  simp only [go_sem, simprocAttr]
  by_cases h1 : (60 : Int) < g.ls.length
  · simp only [go_sem, simprocAttr, h1]
    exact out_sc
  simp only [go_sem, simprocAttr, h1]
  by_cases h2 : (200 : Int) < down.length
  · simp only [go_sem, simprocAttr, h2]
    exact out_sc
  simp only [go_sem, simprocAttr, h2]
  refine good_imm (ref_ways_ok g down from_ to) rfl ?_
  simp only [go_sem, simprocAttr]
  refine good_imm (hops_ok g down from_ to) rfl ?_
  simp only [go_sem, simprocAttr]
  unfold op3_51
  simp only [go_sem, simprocAttr]
  refine goodD_imm (count_ok g down from_ to) rfl ?_
  obtain ⟨e1, e2⟩ := dag_eq g down from_ to
  rw [e1, e2]
  cases hb : (waysOf g down from_ to).2.2.2
  all_goals
    simp only [go_sem, simprocAttr]
    refine goodD_imm (duses_ok g down from_ to) rfl ?_
    simp only [go_sem, simprocAttr]
    refine goodD_imm (ref_uses_ok g down from_ to) rfl ?_
    have hl : (dusesOf g down from_ to).length < 1000000000 := by
      rw [duses_eq]
      unfold usesOf
      split
      · simp
      · have := List.length_filter_le (usesCond g down (refFrom g down from_) (refFrom g down to) to) (upto (2 * g.ls.length))
        rw [upto_len] at this
        omega
    simp only [go_sem, simprocAttr]
    refine goodD_imm (same_ok _ _ hl) rfl ?_
    rw [duses_eq]
    simp only [go_sem, simprocAttr]
    exact out_sc
end Go.Proofs

set_option linter.unusedSimpArgs false
set_option linter.unusedVariables false
namespace Go.Proofs
open Go.Ab

/-! ### Which edges shortest ways have -/
def cin (g : Gr) (l : List Int) (v : Int) : Int := (l.countP fun e => decide ((g.ends e).2.1 = v) : Nat)
def cout (g : Gr) (l : List Int) (v : Int) : Int := (l.countP fun e => decide ((g.ends e).1 = v) : Nat)
theorem cin_pos {g : Gr} {l : List Int} {v : Int} : 0 < cin g l v ↔ ∃ e ∈ l, (g.ends e).2.1 = v := by
  unfold cin
  rw [Int.natCast_pos, List.countP_pos_iff]
  simp
theorem cout_pos {g : Gr} {l : List Int} {v : Int} : 0 < cout g l v ↔ ∃ e ∈ l, (g.ends e).1 = v := by
  unfold cout
  rw [Int.natCast_pos, List.countP_pos_iff]
  simp
theorem cin_nn (g : Gr) (l : List Int) (v : Int) : 0 ≤ cin g l v := Int.natCast_nonneg _
theorem cout_nn (g : Gr) (l : List Int) (v : Int) : 0 ≤ cout g l v := Int.natCast_nonneg _
theorem cin_le (g : Gr) (l : List Int) (v : Int) : cin g l v ≤ l.length := by unfold cin; exact Int.ofNat_le.2 List.countP_le_length
theorem cout_le (g : Gr) (l : List Int) (v : Int) : cout g l v ≤ l.length := by unfold cout; exact Int.ofNat_le.2 List.countP_le_length
theorem cin_app (g : Gr) (l : List Int) (e v : Int) : cin g (l ++ [e]) v = if v = (g.ends e).2.1 then cin g l v + 1 else cin g l v := by
  unfold cin
  rw [List.countP_append]
  by_cases h : v = (g.ends e).2.1
  · rw [if_pos h]; simp [h]
  · have h' : ¬ (g.ends e).2.1 = v := fun e => h e.symm
    rw [if_neg h]; simp [h']
theorem cout_app (g : Gr) (l : List Int) (e v : Int) : cout g (l ++ [e]) v = if v = (g.ends e).1 then cout g l v + 1 else cout g l v := by
  unfold cout
  rw [List.countP_append]
  by_cases h : v = (g.ends e).1
  · rw [if_pos h]; simp [h]
  · have h' : ¬ (g.ends e).1 = v := fun e => h e.symm
    rw [if_neg h]; simp [h']

structure UFact (g : Gr) (down : List Bool) (from_ to : Int) (L : List Int) : Prop where
  mem : ∀ e ∈ L, (0 ≤ e ∧ e < 2 * (g.ls.length : Int)) ∧ isDown down (e / 2) = false
  sorted : L.Pairwise (· < ·)
  mid : ∀ v, 0 ≤ v → v < g.n → v ≠ from_ → v ≠ to → (0 < cin g L v ↔ 0 < cout g L v)
  i0 : cin g L from_ = 0
  o0 : cout g L to = 0
  o1 : 0 < cout g L from_
  i1 : 0 < cin g L to

theorem uses_mem {g : Gr} {down : List Bool} {a b : List Int} {to e : Int} : e ∈ (upto (2 * g.ls.length)).filter (usesCond g down a b to) ↔ (0 ≤ e ∧ e < 2 * (g.ls.length : Int)) ∧ isDown down (e / 2) = false ∧ 0 ≤ at0 a (g.ends e).1 ∧ 0 ≤ at0 b (g.ends e).2.1 ∧ at0 a (g.ends e).1 + g.metric e + at0 b (g.ends e).2.1 = at0 a to := by
  rw [List.mem_filter, upto_mem]
  unfold usesCond
  rw [Bool.and_eq_true, Bool.and_eq_true, Bool.and_eq_true, decide_eq_true_eq, decide_eq_true_eq, decide_eq_true_eq]
  simp
theorem uses_fact {g : Gr} (hg : g.Ok) {down : List Bool} {from_ to : Int} (hf : 0 ≤ from_ ∧ from_ < g.n) (ht : 0 ≤ to ∧ to < g.n) (hne : from_ ≠ to) {a b : List Int} (ha : IsDist g down from_ a) (hb : IsDist g down to b) (h0 : 0 ≤ at0 a to) :
    UFact g down from_ to ((upto (2 * g.ls.length)).filter (usesCond g down a b to)) := by
  obtain ⟨s1, s2⟩ := dist_sym hg ha hb hf ht
  have hb0 := s1.1 h0
  have hs := s2 h0
  have hz : ∀ v, 0 ≤ v → v < g.n → at0 a v = 0 → v = from_ := fun v v0 v1 hv => by
    rcases ha.reach v v0 v1 (by omega) with ⟨h, _⟩ | ⟨k, hk, e1, e2, e3⟩
    · exact h
    · obtain ⟨m1, _⟩ := g.metric_of hg hk.1 hk.2.1; omega
  have hzb : ∀ v, 0 ≤ v → v < g.n → at0 b v = 0 → v = to := fun v v0 v1 hv => by
    rcases hb.reach v v0 v1 (by omega) with ⟨h, _⟩ | ⟨k, hk, e1, e2, e3⟩
    · exact h
    · obtain ⟨m1, _⟩ := g.metric_of hg hk.1 hk.2.1; omega
  -- what lies on a way, and is not its end, is left; and come to
  have out : ∀ v, 0 ≤ v → v < g.n → 0 ≤ at0 a v → 0 ≤ at0 b v → at0 a v + at0 b v = at0 a to → v ≠ to → ∃ e ∈ (upto (2 * g.ls.length)).filter (usesCond g down a b to), (g.ends e).1 = v := fun v v0 v1 h1 h2 h3 h4 => by
    rcases next_some hg hb ⟨v0, v1⟩ h2 with ⟨h, _⟩ | ⟨e, he⟩
    · exact absurd h h4
    · obtain ⟨⟨k0, k1⟩, e3, e4, e5, e6, e7, e8⟩ := nextOf_mem hg he
      refine ⟨e, uses_mem.2 ⟨⟨k0, k1⟩, ?_, by rw [e3]; exact h1, e5, by rw [e3]; omega⟩, e3⟩
      rw [up_down down e k0] at e8
      simpa using e8
  have inn : ∀ v, 0 ≤ v → v < g.n → 0 ≤ at0 a v → 0 ≤ at0 b v → at0 a v + at0 b v = at0 a to → v ≠ from_ → ∃ e ∈ (upto (2 * g.ls.length)).filter (usesCond g down a b to), (g.ends e).2.1 = v := fun v v0 v1 h1 h2 h3 h4 => by
    rcases ha.reach v v0 v1 h1 with ⟨h, _⟩ | ⟨k, hk, e1, e2, e3⟩
    · exact absurd h h4
    · refine ⟨k, uses_mem.2 ⟨⟨hk.1, hk.2.1⟩, ?_, e2, by rw [e1]; exact h2, by rw [e1]; omega⟩, e1⟩
      have := hk.2.2
      rw [up_down down k hk.1] at this
      simpa using this
  have ends : ∀ e ∈ (upto (2 * g.ls.length)).filter (usesCond g down a b to), (at0 a (g.ends e).1 + at0 b (g.ends e).1 = at0 a to ∧ 0 ≤ at0 b (g.ends e).1 ∧ 0 ≤ at0 a (g.ends e).1) ∧ (at0 a (g.ends e).2.1 + at0 b (g.ends e).2.1 = at0 a to ∧ 0 ≤ at0 a (g.ends e).2.1 ∧ 0 ≤ at0 b (g.ends e).2.1) := fun e he => by
    obtain ⟨⟨k0, k1⟩, hd, x1, x2, x3⟩ := uses_mem.1 he
    have hu : isUp down e = true := by rw [up_down down e k0, hd]; rfl
    obtain ⟨v1, v2, _⟩ := g.ends_of hg k0 k1
    obtain ⟨m1, _⟩ := g.metric_of hg k0 k1
    have h4 := closed_rev hg hb ⟨k0, k1, hu⟩ x2
    have h5 := dist_tri hg ha hb _ (g.ends e).1 (Nat.le_refl _) v1 x1 h4.1
    have h6 := ha.closed e ⟨k0, k1, hu⟩ x1
    have h7 := dist_tri hg ha hb _ (g.ends e).2.1 (Nat.le_refl _) v2 h6.1 x2
    refine ⟨⟨by omega, h4.1, x1⟩, by omega, h6.1, x2⟩
  refine ⟨fun e he => ⟨(uses_mem.1 he).1, (uses_mem.1 he).2.1⟩, (upto_sorted _).filter _, fun v v0 v1 h1 h2 => ?_, ?_, ?_, ?_, ?_⟩
  · rw [cin_pos, cout_pos]
    constructor
    · rintro ⟨e, he, rfl⟩
      obtain ⟨_, q1, q2, q3⟩ := ends e he
      exact out _ v0 v1 q2 q3 q1 h2
    · rintro ⟨e, he, rfl⟩
      obtain ⟨⟨q1, q2, q3⟩, _⟩ := ends e he
      exact inn _ v0 v1 q3 q2 q1 h1
  · refine Decidable.byContradiction fun h => ?_
    have := cin_nn g ((upto (2 * g.ls.length)).filter (usesCond g down a b to)) from_
    obtain ⟨e, he, h1⟩ := cin_pos.1 (by omega : 0 < cin g ((upto (2 * g.ls.length)).filter (usesCond g down a b to)) from_)
    obtain ⟨⟨k0, k1⟩, hd, x1, x2, x3⟩ := uses_mem.1 he
    obtain ⟨m1, _⟩ := g.metric_of hg k0 k1
    rw [h1] at x3
    omega
  · refine Decidable.byContradiction fun h => ?_
    have := cout_nn g ((upto (2 * g.ls.length)).filter (usesCond g down a b to)) to
    obtain ⟨e, he, h1⟩ := cout_pos.1 (by omega : 0 < cout g ((upto (2 * g.ls.length)).filter (usesCond g down a b to)) to)
    obtain ⟨⟨k0, k1⟩, hd, x1, x2, x3⟩ := uses_mem.1 he
    obtain ⟨m1, _⟩ := g.metric_of hg k0 k1
    rw [h1] at x3
    omega
  · rw [cout_pos]
    exact out from_ hf.1 hf.2 (by rw [ha.src]; exact Int.le_refl _) hb0 (by rw [ha.src]; omega) hne
  · rw [cin_pos]
    exact inn to ht.1 ht.2 h0 (by rw [hb.src]; exact Int.le_refl _) (by rw [hb.src]; omega) (fun h => hne h.symm)

/-- The three ways a pair of nodes may lie. -/
theorem uses_cases {g : Gr} (hg : g.Ok) {down : List Bool} {from_ to : Int} (hf : 0 ≤ from_ ∧ from_ < g.n) (ht : 0 ≤ to ∧ to < g.n) :
    (from_ = to → usesOf g down from_ to = [] ∧ (waysOf g down from_ to).1 = 1) ∧
    (from_ ≠ to → ((waysOf g down from_ to).1 = 0 ∧ usesOf g down from_ to = [] ∧ at0 (refFrom g down from_) to < 0) ∨ ((waysOf g down from_ to).1 ≠ 0 ∧ UFact g down from_ to (usesOf g down from_ to))) := by
  have hc := g.check_ok.2 hg
  have ha := refFrom_dist (down := down) hg hf
  have hb := refFrom_dist (down := down) hg ht
  have bnil := refFrom_nil (g := g) (down := down) (node := to)
  have anil := refFrom_nil (g := g) (down := down) (node := from_)
  have hbn : refFrom g down to ≠ [] := fun h => (bnil.1 h) ⟨hc, ht⟩
  have han : refFrom g down from_ ≠ [] := fun h => (anil.1 h) ⟨hc, hf⟩
  obtain ⟨s1, s2⟩ := dist_sym hg ha hb hf ht
  unfold usesOf waysOf
  constructor
  · intro e
    subst e
    have h0 : at0 (refFrom g down from_) from_ = 0 := ha.src
    rw [if_neg (fun h => h.elim han fun h => h.elim han fun h => by omega), if_pos ⟨han, hf, by omega⟩]
    constructor
    · refine List.filter_eq_nil_iff.2 fun e he => ?_
      intro h
      have := uses_mem.1 (List.mem_filter.2 ⟨he, h⟩)
      obtain ⟨⟨k0, k1⟩, _, x1, x2, x3⟩ := this
      obtain ⟨m1, _⟩ := g.metric_of hg k0 k1
      omega
    · unfold cP
      rw [cntOf_zero (by omega)]
  · intro hne
    by_cases h0 : 0 ≤ at0 (refFrom g down from_) to
    · right
      have hb0 := s1.1 h0
      rw [if_pos ⟨hbn, hf, hb0⟩, if_neg (fun h => h.elim han fun h => h.elim hbn fun h => by omega)]
      refine ⟨?_, uses_fact hg hf ht hne ha hb h0⟩
      obtain ⟨c1, _, _⟩ := cnt_bks hg hb _ from_ (Nat.le_refl _) hf hb0
      have hn := bks_ne hg hb _ from_ (Nat.le_refl _) hf hb0
      have hl : 0 < (bks g down (refFrom g down to) from_).length := List.length_pos_iff.2 hn
      simp only
      rw [c1]
      unfold cap
      split <;> omega
    · left
      have hb0 : ¬ 0 ≤ at0 (refFrom g down to) from_ := fun h => h0 (s1.2 h)
      rw [if_neg (fun h => hb0 h.2.2), if_pos (.inr (.inr (by omega)))]
      exact ⟨rfl, rfl, by omega⟩
end Go.Proofs

set_option linter.unusedSimpArgs false
set_option linter.unusedVariables false
namespace Go.Proofs
open Go.Ab

theorem dagUses_ok (g : Gr) (down : List Bool) (from_ to : Int) : PGood Try.prog 5 [g.val, .lst (bools down), .i from_, .i to] (.b true) := by
  refine pgood_of_out 2 (good_of_wp isF5 (Nat.le_refl _) ?_)
  unfold ac5
  simp only [go_sem, simprocAttr, Gr.val]
  intro gid hgid
  simp only [go_sem, simprocAttr]
  refine good_imm alive_ok rfl ?_
  simp only [go_sem, simprocAttr]
  refine good_imm (rcheck_ok g) rfl ?_
  simp only [go_sem, simprocAttr]
  by_cases hc : g.check.2 = 0
  case neg =>
    simp only [go_sem, simprocAttr, hc]
    exact out_sc
  simp only [go_sem, simprocAttr, hc]
  by_cases h1 : (60 : Int) < g.ls.length
  · simp only [go_sem, simprocAttr, h1]
    exact out_sc
  simp only [go_sem, simprocAttr, h1]
  by_cases h2 : (200 : Int) < down.length
  · simp only [go_sem, simprocAttr, h2]
    exact out_sc
  simp only [go_sem, simprocAttr, h2]
  by_cases h3 : from_ < 0
  · simp only [go_sem, simprocAttr, h3]
    exact out_sc
  simp only [go_sem, simprocAttr, h3]
  by_cases h4 : g.n ≤ from_
  · simp only [go_sem, simprocAttr, h4]
    exact out_sc
  simp only [go_sem, simprocAttr, h4]
  by_cases h5 : to < 0
  · simp only [go_sem, simprocAttr, h5]
    exact out_sc
  simp only [go_sem, simprocAttr, h5]
  by_cases h6 : g.n ≤ to
  · simp only [go_sem, simprocAttr, h6]
    exact out_sc
  simp only [go_sem, simprocAttr, h6]
  have hg := g.check_ok.1 hc
  obtain ⟨k1, k2, k3, k4⟩ := hg
  have hg : g.Ok := ⟨k1, k2, k3, k4⟩
  have hf : 0 ≤ from_ ∧ from_ < g.n := by omega
  have ht : 0 ≤ to ∧ to < g.n := by omega
  obtain ⟨u1, u2⟩ := uses_cases hg (down := down) hf ht
  refine good_imm (duses_ok g down from_ to) rfl ?_
  rw [duses_eq]
  simp only [go_sem, simprocAttr]
  refine good_imm (count_ok g down from_ to) rfl ?_
  rw [(dag_eq g down from_ to).1]
  simp only [go_sem, simprocAttr]
  by_cases he : from_ = to
  · obtain ⟨e1, e2⟩ := u1 he
    rw [e1, e2]
    simp only [go_sem, simprocAttr, he, Int.natCast_zero]
    exact out_sc
  simp only [go_sem, simprocAttr, he]
  have hda := refFrom_dist (down := down) hg hf
  rcases u2 he with ⟨e1, e2, e3⟩ | ⟨e1, e2⟩
  · have hl0 : ((usesOf g down from_ to).length : Int) = 0 := by rw [e2]; rfl
    rw [e1]
    simp only [go_sem, simprocAttr, hl0]
    refine good_imm (ref_from_ok g down from_) rfl ?_
    have x1 := mem_at0 hda.len ht.1 ht.2
    have n1 : to < ((refFrom g down from_).length : Nat) := by rw [hda.len]; omega
    have n0 := ht.1
    simp only [go_sem, simprocAttr, n0, n1, x1, e3]
    exact out_sc
  simp only [go_sem, simprocAttr, e1]
  obtain ⟨m1, m2, m3, m4, m5, m6, m7⟩ := e2
  have hlen : (usesOf g down from_ to).length ≤ 240 := by
    unfold usesOf
    split
    · simp
    · have := List.length_filter_le (usesCond g down (refFrom g down from_) (refFrom g down to) to) (upto (2 * g.ls.length))
      rw [upto_len] at this
      omega
  clear hda u1 u2
  generalize usesOf g down from_ to = L at *
  have p1 : (0 : Int) ≤ g.n := by omega
  have p2 : g.n ≤ 9223372036854775807 := by omega
  have p3 : g.n.toNat * 8 ≤ 281474976710656 := by omega
  simp only [go_sem, simprocAttr, p1, p2, p3]
  intro iid hiid
  have a1 : gid ≠ iid := fun e => by rw [← e] at hiid; simp at hiid
  simp only [go_sem, simprocAttr, rowAt_ne a1, p1, p2, p3]
  intro oid hoid
  have a2 : gid ≠ oid := fun e => by rw [← e, Store.get_set_ne _ _ a1] at hoid; simp at hoid
  have a3 : iid ≠ oid := fun e => by rw [← e] at hoid; simp at hoid
  simp only [go_sem, simprocAttr]
  have hz : List.replicate g.n.toNat [AVal.sc (.int .i64 0)] = ints (List.replicate g.n.toNat 0) := (ints_rep _ _).symm
  rw [hz]
  have r0 : ∀ v, 0 ≤ v → v < g.n → at0 (List.replicate g.n.toNat (0 : Int)) v = 0 := fun v v0 v1 => by
    have : v.toNat < g.n.toNat := by omega
    simp [this]
  let I : Nat → Fr → Store → Prop := fun m fr τ => ∃ (i : Nat) (ia oa : List Int), i ≤ L.length ∧ m = L.length - i ∧ fr = [(1, .lst (bools down)), (2, .i from_), (3, .i to), (4, .ptr gid 0 0 0), (12, .lst (ints L)), (14, .sl iid 0 0 g.n.toNat 1), (15, .sl oid 0 0 g.n.toNat 1), (16, .i i)] ∧
    τ.get gid = some (.row 0 false 2 [[.sc (.int .i64 g.n), .lst (g.ls.map Lk.row)]]) ∧ τ.get iid = some (.row 0 false 1 (ints ia)) ∧ τ.get oid = some (.row 0 false 1 (ints oa)) ∧ ia.length = g.n.toNat ∧ oa.length = g.n.toNat ∧
    (∀ v, 0 ≤ v → v < g.n → at0 ia v = cin g (L.take i) v) ∧ (∀ v, 0 ≤ v → v < g.n → at0 oa v = cout g (L.take i) v)
  refine loop_rule I L.length ⟨0, List.replicate g.n.toNat 0, List.replicate g.n.toNat 0, by omega, rfl, rfl, by simp [Store.get_set, a1, a2], by simp [Store.get_set, a3], by simp, by simp, by simp, fun v v0 v1 => ?_, fun v v0 v1 => ?_⟩ ?_
  · rw [r0 v v0 v1]; simp [cin]
  · rw [r0 v v0 v1]; simp [cout]
  clear hoid hiid hgid hz
  rintro m fr τ ⟨i, ia, oa, hi, rfl, rfl, g1, g2, g3, l1, l2, c1, c2⟩
  simp only [go_sem, simprocAttr]
  refine .intro (fun hil => ?_) (fun hil => ?_)
  · have hil' : i < L.length := by omega
    have x1 : (ints L)[i]? = some [.sc (.int .i64 L[i])] := ints_get (List.getElem?_eq_getElem hil')
    have hmem := m1 _ (List.getElem_mem hil')
    have htake : L.take (i + 1) = L.take i ++ [L[i]] := List.take_succ_eq_append_getElem hil'
    have hprev : 0 < i → ∃ x, (ints L)[i - 1]? = some [.sc (.int .i64 x)] ∧ ¬ L[i] ≤ x := fun h => by
      have hlt : i - 1 < L.length := by omega
      refine ⟨L[i - 1], ints_get (List.getElem?_eq_getElem hlt), ?_⟩
      have := List.pairwise_iff_getElem.1 m2 (i - 1) i hlt hil' (by omega)
      omega
    generalize L[i] = e at *
    obtain ⟨⟨b0, b1⟩, b2⟩ := hmem
    obtain ⟨v1, v2, v3, v4⟩ := g.ends_of hg b0 b1
    have n4 : (0 : Int) ≤ i := by omega
    have n5 : (i : Int) < L.length := hil
    have hq : IntKind.i64.wrap (e.tdiv 2) = e / 2 := by
      rw [Int.tdiv_eq_ediv_of_nonneg (by omega)]
      exact wrap_id (by omega) (by omega)
    have w4 : IntKind.i64.wrap ((i : Int) + 1) = ((i + 1 : Nat) : Int) := by rw [wrap_id (by omega) (by omega)]; rfl
    have x5 := mem_at0 l2 v1.1 v1.2
    have x6 := mem_at0 l1 v2.1 v2.2
    have q1 := c2 _ v1.1 v1.2
    have q2 := c1 _ v2.1 v2.2
    have q3 := cout_le g (L.take i) (g.ends e).1
    have q4 := cin_le g (L.take i) (g.ends e).2.1
    have q5 := cout_nn g (L.take i) (g.ends e).1
    have q6 := cin_nn g (L.take i) (g.ends e).2.1
    have q7 : (L.take i).length ≤ 240 := by rw [List.length_take]; omega
    have w5 : IntKind.i64.wrap (at0 oa (g.ends e).1 + 1) = at0 oa (g.ends e).1 + 1 := wrap_small (by omega) (by omega)
    have w6 : IntKind.i64.wrap (at0 ia (g.ends e).2.1 + 1) = at0 ia (g.ends e).2.1 + 1 := wrap_small (by omega) (by omega)
    have fin : Back I (L.length - i) [(1, .lst (bools down)), (2, .i from_), (3, .i to), (4, .ptr gid 0 0 0), (12, .lst (ints L)), (14, .sl iid 0 0 g.n.toNat 1), (15, .sl oid 0 0 g.n.toNat 1), (16, .i ((i + 1 : Nat) : Int))]
        ((τ.set oid (.row 0 false 1 (ints (oa.set (g.ends e).1.toNat (at0 oa (g.ends e).1 + 1))))).set iid (.row 0 false 1 (ints (ia.set (g.ends e).2.1.toNat (at0 ia (g.ends e).2.1 + 1))))) := by
      refine back_of (L.length - (i + 1)) (Nat.sub_lt_sub_left hil' (Nat.lt_succ_self i)) ⟨i + 1, ia.set (g.ends e).2.1.toNat (at0 ia (g.ends e).2.1 + 1), oa.set (g.ends e).1.toNat (at0 oa (g.ends e).1 + 1), hil', rfl, rfl, ?_, by rw [Store.get_set_self], ?_, by simpa using l1, by simpa using l2, fun v v0 v1' => ?_, fun v v0 v1' => ?_⟩
      · rw [Store.get_set_ne _ _ a1, Store.get_set_ne _ _ a2, g1]
      · rw [Store.get_set_ne _ _ (fun e => a3 e.symm), Store.get_set_self]
      · rw [at0_set' l1 v2 v0, htake, cin_app]
        by_cases h : v = (g.ends e).2.1
        · rw [if_pos h, if_pos h, q2, h]
        · rw [if_neg h, if_neg h, c1 v v0 v1']
      · rw [at0_set' l2 v1 v0, htake, cout_app]
        by_cases h : v = (g.ends e).1
        · rw [if_pos h, if_pos h, q1, h]
        · rw [if_neg h, if_neg h, c2 v v0 v1']
    have hends := rends_ok g e (by omega)
    clear htake q1 q2 q3 q4 q5 q6 q7 m3 m4 m5 m6 m7 m1 m2
    generalize (g.ends e).1 = s at *
    generalize (g.ends e).2.1 = t at *
    have i1 := lt_toNat v1.1 v1.2
    have i2 := lt_toNat v2.1 v2.2
    have i3 := v1.1
    have i4 := v2.1
    have ro : ∀ x, (ints oa).set s.toNat [AVal.sc (.int .i64 x)] = ints (oa.set s.toNat x) := fun x => (ints_set _ _ _).symm
    have ri : ∀ x, (ints ia).set t.toNat [AVal.sc (.int .i64 x)] = ints (ia.set t.toNat x) := fun x => (ints_set _ _ _).symm
    have uiid : ∀ o, Ab.rowAt (τ.set oid o) iid 0 = some (false, 1, ints ia) := fun o => by rw [rowAt_ne a3, rowAt_get g2]
    simp only [go_sem, simprocAttr]
    unfold op5_113
    simp only [go_sem, simprocAttr, n4, n5, x1, rowAt_get g1]
    refine goodD_imm hends rfl ?_
    simp only [go_sem, simprocAttr, v3]
    unfold op5_122
    by_cases hi0 : i = 0
    · have hi0' : ¬ (0 : Int) < i := by omega
      simp only [go_sem, simprocAttr, v3, hi0', n4, n5, x1, hq]
      refine goodD_imm (isdown_ok down (e / 2)) rfl ?_
      rw [b2]
      simp only [go_sem, simprocAttr, i1, i2, i3, i4, rowAt_get g3, uiid, x5, x6, w5, w6, ro, ri, w4]
      exact fin
    · have hi0' : (0 : Int) < i := by omega
      obtain ⟨x, hx, hxl⟩ := hprev (by omega)
      have wi : IntKind.i64.wrap ((i : Int) - 1) = ((i - 1 : Nat) : Int) := by rw [wrap_id (by omega) (by omega)]; omega
      have n6 : (0 : Int) ≤ ((i - 1 : Nat) : Int) := by omega
      have n7 : ((i - 1 : Nat) : Int) < L.length := by omega
      simp only [go_sem, simprocAttr, v3, hi0', n4, n5, x1, hq, wi, n6, n7, hx, hxl]
      refine goodD_imm (isdown_ok down (e / 2)) rfl ?_
      rw [b2]
      simp only [go_sem, simprocAttr, i1, i2, i3, i4, rowAt_get g3, uiid, x5, x6, w5, w6, ro, ri, w4]
      exact fin
  · have ei : i = L.length := by omega
    subst ei
    rw [List.take_length] at c1 c2
    simp only [go_sem, simprocAttr]
    have t0 := ht.1
    have t1 : to < (g.n.toNat : Int) := by omega
    have f0 := hf.1
    have f1 : from_ < (g.n.toNat : Int) := by omega
    refine loop_rule (fun m fr τ2 => ∃ (j : Nat), j ≤ g.n.toNat ∧ m = g.n.toNat - j ∧ fr = [(2, .i from_), (3, .i to), (4, .ptr gid 0 0 0), (14, .sl iid 0 0 g.n.toNat 1), (15, .sl oid 0 0 g.n.toNat 1), (20, .i j)] ∧
      τ2.get gid = some (.row 0 false 2 [[.sc (.int .i64 g.n), .lst (g.ls.map Lk.row)]]) ∧ τ2.get iid = some (.row 0 false 1 (ints ia)) ∧ τ2.get oid = some (.row 0 false 1 (ints oa))) g.n.toNat ⟨0, by omega, rfl, rfl, g1, g2, g3⟩ ?_
    clear g1 g2 g3
    rintro m fr τ2 ⟨j, hj, rfl, rfl, g1, g2, g3⟩
    simp only [go_sem, simprocAttr, rowAt_get g1]
    refine .intro (fun hjl => ?_) (fun hjl => ?_)
    · have j0 : (0 : Int) ≤ j := by omega
      have j1 : (j : Int) < (g.n.toNat : Int) := by omega
      have w4 : IntKind.i64.wrap ((j : Int) + 1) = ((j + 1 : Nat) : Int) := by rw [wrap_id (by omega) (by omega)]; rfl
      have x1 := mem_at0 l1 j0 hjl
      have x2 := mem_at0 l2 j0 hjl
      rw [Int.toNat_natCast] at x1 x2
      rw [c1 _ j0 hjl] at x1
      rw [c2 _ j0 hjl] at x2
      have same : Back (fun m fr τ2 => ∃ (j : Nat), j ≤ g.n.toNat ∧ m = g.n.toNat - j ∧ fr = [(2, .i from_), (3, .i to), (4, .ptr gid 0 0 0), (14, .sl iid 0 0 g.n.toNat 1), (15, .sl oid 0 0 g.n.toNat 1), (20, .i j)] ∧
          τ2.get gid = some (.row 0 false 2 [[.sc (.int .i64 g.n), .lst (g.ls.map Lk.row)]]) ∧ τ2.get iid = some (.row 0 false 1 (ints ia)) ∧ τ2.get oid = some (.row 0 false 1 (ints oa))) (g.n.toNat - j)
          [(2, .i from_), (3, .i to), (4, .ptr gid 0 0 0), (14, .sl iid 0 0 g.n.toNat 1), (15, .sl oid 0 0 g.n.toNat 1), (20, .i ((j + 1 : Nat) : Int))] τ2 := back_of (g.n.toNat - (j + 1)) (by omega) ⟨j + 1, by omega, rfl, rfl, g1, g2, g3⟩
      simp only [go_sem, simprocAttr]
      unfold op5_167
      by_cases q1 : (j : Int) = from_
      · simp only [go_sem, simprocAttr, q1, w4]
        rw [q1] at w4
        simp only [go_sem, simprocAttr, w4]
        exact same
      simp only [go_sem, simprocAttr, q1]
      by_cases q2 : (j : Int) = to
      · simp only [go_sem, simprocAttr, q2, w4]
        rw [q2] at w4
        simp only [go_sem, simprocAttr, w4]
        exact same
      have hmid := m3 _ j0 hjl q1 q2
      simp only [go_sem, simprocAttr, q2, j0, j1, rowAt_get g2, rowAt_get g3, x1, x2]
      by_cases q3 : 0 < cin g L j
      · have q4 := hmid.1 q3
        simp only [go_sem, simprocAttr, q3, q4, w4]
        exact same
      · have q4 : ¬ 0 < cout g L j := fun h => q3 (hmid.2 h)
        simp only [go_sem, simprocAttr, q3, q4, w4]
        exact same
    · have x1 := mem_at0 l1 hf.1 hf.2
      have x2 := mem_at0 l2 ht.1 ht.2
      have x3 := mem_at0 l2 hf.1 hf.2
      have x4 := mem_at0 l1 ht.1 ht.2
      rw [c1 _ hf.1 hf.2, m4] at x1
      rw [c2 _ ht.1 ht.2, m5] at x2
      rw [c2 _ hf.1 hf.2] at x3
      rw [c1 _ ht.1 ht.2] at x4
      simp only [go_sem, simprocAttr, f0, f1, t0, t1, rowAt_get g2, rowAt_get g3, x1, x2, x3, x4, m6, m7]
      exact out_sc
end Go.Proofs

namespace Go.Proofs.Ytgkgllhjakbcnaa
open Go.ChangeShapes Go.WideShapes Go.ChangeAt Go.RowKit Go.Ab
set_option linter.unusedVariables false

theorem ownKn : ownKnob Try.prog.godebug = none := by kernel_rfl
theorem laidOut : laidOutB Try.prog = true := by kernel_rfl
theorem row24 : rowOf Try.prog 5 24 = some [.int .i64, .slice [.int .i64, .int .i64, .int .i64, .int .i64]] := by kernel_rfl
theorem row25 : rowOf Try.prog 5 25 = some [.slice [.bool]] := by kernel_rfl

theorem hasInt {x : AVal} (h : HasC (.int .i64) x) : ∃ n, x = .sc (.int .i64 n) ∧ (Lit.int .i64 n).wf = true := by cases h with | int k n hw => exact ⟨n, rfl, hw⟩
theorem hasBools {x : AVal} (h : HasC (.slice [.bool]) x) : ∃ l : List Bool, x = .lst (bools l) := by
  cases h with
  | lst row xs hl h1 h2 =>
    have key : ∀ ys : List (List AVal), (∀ y ∈ ys, y ∈ xs) → ∃ l : List Bool, ys = bools l := fun ys => by
      induction ys with
      | nil => intro _; exact ⟨[], rfl⟩
      | cons y r ih =>
        intro hm
        obtain ⟨l, hl'⟩ := ih fun z hz => hm z (by simp [hz])
        have hy := hm y (by simp)
        have hlen := h1 y hy
        match y, hlen with
        | [c], _ =>
          have hc := h2 [c] hy 0 .bool c rfl rfl
          cases hc with
          | bool b => exact ⟨b :: l, by rw [hl']; rfl⟩
    obtain ⟨l, hl'⟩ := key xs fun _ h => h
    exact ⟨l, by rw [hl']⟩
theorem hasLinks {x : AVal} (h : HasC (.slice [.int .i64, .int .i64, .int .i64, .int .i64]) x) : ∃ l : List Lk, x = .lst (l.map Lk.row) := by
  cases h with
  | lst row xs hl h1 h2 =>
    have key : ∀ ys : List (List AVal), (∀ y ∈ ys, y ∈ xs) → ∃ l : List Lk, ys = l.map Lk.row := fun ys => by
      induction ys with
      | nil => intro _; exact ⟨[], rfl⟩
      | cons y r ih =>
        intro hm
        obtain ⟨l, hl'⟩ := ih fun z hz => hm z (by simp [hz])
        have hy := hm y (by simp)
        have hlen := h1 y hy
        match y, hlen with
        | [a, b, c, d], _ =>
          obtain ⟨a', rfl, _⟩ := hasInt (h2 _ hy 0 _ a rfl rfl)
          obtain ⟨b', rfl, _⟩ := hasInt (h2 _ hy 1 _ b rfl rfl)
          obtain ⟨c', rfl, _⟩ := hasInt (h2 _ hy 2 _ c rfl rfl)
          obtain ⟨d', rfl, _⟩ := hasInt (h2 _ hy 3 _ d rfl rfl)
          exact ⟨⟨a', b', c', d'⟩ :: l, by rw [hl']; rfl⟩
    obtain ⟨l, hl'⟩ := key xs fun _ h => h
    exact ⟨l, by rw [hl']⟩
theorem hasGr {xs : List AVal} (hl : xs.length = 2) (h : ∀ (i : Nat) c x, ([.int .i64, .slice [.int .i64, .int .i64, .int .i64, .int .i64]] : List CT)[i]? = some c → xs[i]? = some x → HasC c x) : ∃ g : Gr, AVal.agg xs = g.val := by
  match xs, hl with
  | [a, b], _ =>
    obtain ⟨n, rfl, _⟩ := hasInt (h 0 _ a rfl rfl)
    obtain ⟨l, rfl⟩ := hasLinks (h 1 _ b rfl rfl)
    exact ⟨⟨n, l⟩, rfl⟩

/-- A law that answers true, called. -/
theorem law_calls {f : FuncId} {xs : List AVal} (h : PGood Try.prog f xs (.b true)) {W : World} {vs : Array Value} (hr : RelL Asg.none (fun b => b < W.heap.size) W xs vs) :
    Calls Try.prog f vs W fun e w' => e = .returned (.bool true) ∧ Below W.heap.size W w' := by
  refine (h.2 (fun b => b < W.heap.size) W vs (fun _ h => h) hr).mono ?_
  rintro e w' ⟨v, Im', rfl, _, _, _, h4, h5⟩
  rw [rel_sc_inv h4]
  exact ⟨rfl, h5.toBelow⟩
theorem relL4 {Im : Nat → Prop} {W : World} {a b c d : AVal} {v0 v1 v2 v3 : Value} (h0 : Rel Asg.none Im W a v0) (h1 : Rel Asg.none Im W b v1) (h2 : Rel Asg.none Im W c v2) (h3 : Rel Asg.none Im W d v3) : RelL Asg.none Im W [a, b, c, d] #[v0, v1, v2, v3] := ⟨rfl, fun i x v hx hv => by
  match i with
  | 0 => simp at hx hv; subst hx hv; exact h0
  | 1 => simp at hx hv; subst hx hv; exact h1
  | 2 => simp at hx hv; subst hx hv; exact h2
  | 3 => simp at hx hv; subst hx hv; exact h3
  | i + 4 => simp at hx⟩
end Go.Proofs.Ytgkgllhjakbcnaa

set_option linter.unusedSimpArgs false
set_option linter.unusedVariables false
set_option linter.unusedSectionVars false
namespace Go.Proofs
open Go.Ab

/-! ### A row of nodes, each joined to the next by so many links -/
def dblL (k i : Nat) : List Lk := (List.range i).flatMap fun (a : Nat) => List.replicate k ⟨(a : Int), (a : Int) + 1, 5, 0⟩
theorem dblL_succ (k i : Nat) : dblL k (i + 1) = dblL k i ++ List.replicate k ⟨(i : Int), (i : Int) + 1, 5, 0⟩ := by
  unfold dblL
  rw [List.range_succ, List.flatMap_append]
  simp
theorem dblL_len (k i : Nat) : (dblL k i).length = i * k := by
  induction i with
  | zero => simp [dblL]
  | succ i ih => rw [dblL_succ, List.length_append, ih, List.length_replicate, Nat.succ_mul]
theorem dblL_get {k : Nat} (hk : 0 < k) : ∀ (i q : Nat), q < i * k → (dblL k i)[q]? = some ⟨((q / k : Nat) : Int), ((q / k : Nat) : Int) + 1, 5, 0⟩
  | 0, q, h => by simp at h
  | i + 1, q, h => by
    rw [dblL_succ]
    by_cases hq : q < i * k
    · rw [List.getElem?_append_left (by rw [dblL_len]; exact hq)]
      exact dblL_get hk i q hq
    · rw [List.getElem?_append_right (by rw [dblL_len]; omega), dblL_len]
      rw [Nat.succ_mul] at h
      rw [List.getElem?_replicate, if_pos (by omega)]
      have : q / k = i := by
        rw [Nat.div_eq_iff hk]
        constructor <;> simp only [Nat.mul_comm, Nat.succ_mul] at * <;> omega
      rw [this]
def dbl (n k : Nat) : Gr := ⟨n, dblL k (n - 1)⟩

section
variable {n k : Nat} (hn : 1 ≤ n) (hn' : n ≤ 40) (hk : 1 ≤ k) (hk' : k ≤ 3) (hm : (n - 1) * k ≤ 120)
include hn hn' hk hm
theorem dbl_ok : (dbl n k).Ok := by
  refine ⟨by show (dblL k (n - 1)).length ≤ 120; rw [dblL_len]; exact hm, by show (1 : Int) ≤ (n : Int); omega, by show (n : Int) ≤ 40; omega, fun l hl => ?_⟩
  obtain ⟨a, ha, hl⟩ := List.mem_flatMap.1 hl
  have := (List.mem_replicate.1 hl).2
  subst this
  have ha' := List.mem_range.1 ha
  unfold Gr.linkErr
  have h1 : (0 : Int) ≤ (a : Int) ∧ (a : Int) < (dbl n k).n := ⟨by omega, by show (a : Int) < (n : Int); omega⟩
  have h2 : (0 : Int) ≤ (a : Int) + 1 ∧ (a : Int) + 1 < (dbl n k).n := ⟨by omega, by show (a : Int) + 1 < (n : Int); omega⟩
  simp only
  rw [if_neg (by omega), if_neg (by omega)]
theorem dbl_len : (dbl n k).ls.length = (n - 1) * k := dblL_len _ _
theorem dbl_edge {e : Int} (h0 : 0 ≤ e) (h1 : e < 2 * ((dbl n k).ls.length : Int)) : ∃ q c : Nat, q < (n - 1) * k ∧ q / k = c ∧ (c : Int) + 1 < (n : Int) ∧
    ((e = 2 * q ∧ (dbl n k).ends e = ((c : Int), (c : Int) + 1, true)) ∨ (e = 2 * q + 1 ∧ (dbl n k).ends e = ((c : Int) + 1, (c : Int), true))) ∧ (dbl n k).metric e = 5 := by
  have hl := dbl_len hn hn' hk hm
  have hq : (e / 2).toNat < (n - 1) * k := by rw [← hl]; omega
  have hg := dblL_get (k := k) (by omega) (n - 1) (e / 2).toNat hq
  have hdiv : (e / 2).toNat / k < n - 1 := (Nat.div_lt_iff_lt_mul (by omega)).2 hq
  have hg' : (dbl n k).ls[(e / 2).toNat]? = some ⟨(((e / 2).toNat / k : Nat) : Int), (((e / 2).toNat / k : Nat) : Int) + 1, 5, 0⟩ := hg
  generalize hc : (e / 2).toNat / k = c at *
  refine ⟨(e / 2).toNat, c, hq, hc, by omega, ?_, by unfold Gr.metric; rw [hg']⟩
  unfold Gr.ends
  rw [if_neg (by omega), hg']
  simp only
  by_cases h : e % 2 = 1
  · right
    rw [if_pos h]
    exact ⟨by omega, rfl⟩
  · left
    rw [if_neg h]
    exact ⟨by omega, rfl⟩
theorem dbl_fwd {q c : Nat} (hq : q < (n - 1) * k) (hc : q / k = c) : (dbl n k).ends (2 * (q : Int)) = ((c : Int), (c : Int) + 1, true) ∧ (dbl n k).ends (2 * (q : Int) + 1) = ((c : Int) + 1, (c : Int), true) ∧ (dbl n k).metric (2 * (q : Int)) = 5 ∧ (dbl n k).metric (2 * (q : Int) + 1) = 5 := by
  have hl := dbl_len hn hn' hk hm
  have key : ∀ e : Int, e / 2 = q → (dbl n k).ends e = if e % 2 = 1 then ((c : Int) + 1, (c : Int), true) else ((c : Int), (c : Int) + 1, true) := fun e he => by
    have hg' : (dbl n k).ls[(e / 2).toNat]? = some ⟨(c : Int), (c : Int) + 1, 5, 0⟩ := by rw [he, Int.toNat_natCast, ← hc]; exact dblL_get (by omega) (n - 1) q hq
    unfold Gr.ends
    rw [if_neg (by omega), hg']
  have key2 : ∀ e : Int, e / 2 = q → (dbl n k).metric e = 5 := fun e he => by
    have hg' : (dbl n k).ls[(e / 2).toNat]? = some ⟨(c : Int), (c : Int) + 1, 5, 0⟩ := by rw [he, Int.toNat_natCast, ← hc]; exact dblL_get (by omega) (n - 1) q hq
    unfold Gr.metric
    rw [hg']
  refine ⟨by rw [key _ (by omega), if_neg (by omega)], by rw [key _ (by omega), if_pos (by omega)], key2 _ (by omega), key2 _ (by omega)⟩

def dblD (n : Nat) : List Int := (List.range n).map fun (i : Nat) => 5 * ((n : Int) - 1 - (i : Int))
def dblA (n : Nat) : List Int := (List.range n).map fun (i : Nat) => 5 * (i : Int)
omit hn hn' hk hm in
theorem dblD_at {v : Int} (h0 : 0 ≤ v) (h1 : v < n) : at0 (dblD n) v = 5 * ((n : Int) - 1 - v) := by
  have hv : v.toNat < n := by omega
  have e : ((v.toNat : Nat) : Int) = v := by omega
  simp [at0, dblD, List.getElem?_range hv, e]
omit hn hn' hk hm in
theorem dblA_at {v : Int} (h0 : 0 ≤ v) (h1 : v < n) : at0 (dblA n) v = 5 * v := by
  have hv : v.toNat < n := by omega
  have e : ((v.toNat : Nat) : Int) = v := by omega
  simp [at0, dblA, List.getElem?_range hv, e]
omit hn hn' hk hm in
theorem up_nil (e : Int) (h : 0 ≤ e) : isUp [] e = true := by
  unfold isUp
  have : ((([] : List Bool).length : Nat) : Int) ≤ e / 2 := by simp; omega
  rw [decide_eq_true this]; rfl
theorem dbl_idx {v : Int} (h0 : 0 ≤ v) (h1 : v + 1 < n) : v.toNat * k < (n - 1) * k ∧ (v.toNat * k) / k = v.toNat ∧ ((v.toNat : Nat) : Int) = v := by
  exact ⟨Nat.mul_lt_mul_of_pos_right (by omega) (by omega), Nat.mul_div_cancel _ (by omega), by omega⟩
theorem dbl_dist : IsDist (dbl n k) [] ((n : Int) - 1) (dblD n) := by
  have hl := dbl_len hn hn' hk hm
  refine ⟨by simp [dblD, dbl], by rw [dblD_at (by omega) (by omega)]; omega, fun v v0 v1 => .inr ?_, fun e he hp => ?_, fun v v0 v1 hp => ?_⟩
  · rw [dblD_at v0 v1]; have : v < (n : Int) := v1; omega
  · obtain ⟨q, c, hq, hqc, hq2, h, hme⟩ := dbl_edge hn hn' hk hm he.1 he.2.1
    rw [hme]
    rcases h with ⟨_, h⟩ | ⟨_, h⟩ <;> rw [h] <;> simp only <;> rw [dblD_at (by omega) (by omega), dblD_at (by omega) (by omega)] <;> omega
  · have v1' : v < (n : Int) := v1
    by_cases hv : v = (n : Int) - 1
    · left; subst hv; exact ⟨rfl, by rw [dblD_at (by omega) (by omega)]; omega⟩
    · right
      obtain ⟨i1, i3, i2⟩ := dbl_idx hn hn' hk hm v0 (by omega)
      obtain ⟨f1, f2, f3, f4⟩ := dbl_fwd hn hn' hk hm i1 i3
      refine ⟨2 * ((v.toNat * k : Nat) : Int) + 1, ⟨by omega, by rw [hl]; omega, up_nil _ (by omega)⟩, by rw [f2]; exact i2, ?_, ?_⟩
      · rw [f2]; simp only; rw [i2, dblD_at (by omega) (by omega)]; omega
      · rw [f2, f4]; simp only; rw [i2, dblD_at v0 v1', dblD_at (by omega) (by omega)]; omega
theorem dbl_distA : IsDist (dbl n k) [] 0 (dblA n) := by
  have hl := dbl_len hn hn' hk hm
  refine ⟨by simp [dblA, dbl], by rw [dblA_at (by omega) (by omega)]; rfl, fun v v0 v1 => .inr ?_, fun e he hp => ?_, fun v v0 v1 hp => ?_⟩
  · rw [dblA_at v0 v1]; omega
  · obtain ⟨q, c, hq, hqc, hq2, h, hme⟩ := dbl_edge hn hn' hk hm he.1 he.2.1
    rw [hme]
    rcases h with ⟨_, h⟩ | ⟨_, h⟩ <;> rw [h] <;> simp only <;> rw [dblA_at (by omega) (by omega), dblA_at (by omega) (by omega)] <;> omega
  · have v1' : v < (n : Int) := v1
    by_cases hv : v = 0
    · left; subst hv; exact ⟨rfl, by rw [dblA_at (by omega) (by omega)]; rfl⟩
    · right
      obtain ⟨i1, i3, i2⟩ := dbl_idx hn hn' hk hm (v := v - 1) (by omega) (by omega)
      obtain ⟨f1, f2, f3, f4⟩ := dbl_fwd hn hn' hk hm i1 i3
      refine ⟨2 * (((v - 1).toNat * k : Nat) : Int), ⟨by omega, by rw [hl]; omega, up_nil _ (by omega)⟩, by rw [f1]; simp only; rw [i2]; omega, ?_, ?_⟩
      · rw [f1]; simp only; rw [i2, dblA_at (by omega) (by omega)]; omega
      · rw [f1, f3]; simp only; rw [i2, dblA_at v0 v1', dblA_at (by omega) (by omega)]; omega
theorem dbl_next_mem {v e : Int} (h0 : 0 ≤ v) (h1 : v + 1 < n) : e ∈ nextOf (dbl n k) [] (dblD n) v ↔ e ∈ (List.range k).map fun (j : Nat) => 2 * (((v.toNat * k + j : Nat)) : Int) := by
  have hg := dbl_ok hn hn' hk hm
  have hl := dbl_len hn hn' hk hm
  constructor
  · intro he
    obtain ⟨⟨e0, e1⟩, e3, e4, e5, e6, _, _⟩ := nextOf_mem hg he
    obtain ⟨q, c, hq, hqc, hq2, h, hme⟩ := dbl_edge hn hn' hk hm e0 e1
    rw [hme] at e6
    rcases h with ⟨h, hh⟩ | ⟨h, hh⟩
    · rw [hh] at e3
      simp only at e3
      have hqv : q / k = v.toNat := by rw [hqc]; omega
      have hm1 := Nat.div_add_mod q k
      have hm2 := Nat.mod_lt q (show k > 0 by omega)
      rw [hqv, Nat.mul_comm] at hm1
      refine List.mem_map.2 ⟨q % k, List.mem_range.2 hm2, ?_⟩
      rw [hm1, h]
    · rw [hh] at e3 e6
      simp only at e3 e6
      rw [dblD_at h0 (by omega), dblD_at (by omega) (by omega)] at e6
      omega
  · intro he
    obtain ⟨j, hj, rfl⟩ := List.mem_map.1 he
    have hj' := List.mem_range.1 hj
    have hlt : v.toNat * k + j < (n - 1) * k := by
      have h3 : (v.toNat + 1) * k ≤ (n - 1) * k := Nat.mul_le_mul_right k (by omega)
      rw [Nat.succ_mul] at h3
      omega
    have hdiv : (v.toNat * k + j) / k = v.toNat := by
      rw [Nat.mul_comm, Nat.mul_add_div (by omega), Nat.div_eq_of_lt hj', Nat.add_zero]
    obtain ⟨f1, _, f3, _⟩ := dbl_fwd hn hn' hk hm hlt hdiv
    have ev : ((v.toNat : Nat) : Int) = v := by omega
    rw [ev] at f1
    refine mem_nextOf hg (by simp [dblD, dbl]) ⟨h0, by show v < (n : Int); omega⟩ ?_ (by omega) (by rw [hl]; omega) (by rw [f1]) (up_nil _ (by omega)) ?_ ?_
    · rw [dblD_at h0 (by omega)]; omega
    · rw [f1]; simp only; rw [dblD_at (by omega) (by omega)]; omega
    · rw [f1, f3]; simp only; rw [dblD_at h0 (by omega), dblD_at (by omega) (by omega)]; omega
omit hn hn' hk hm in
theorem nodup_dbl (c k : Nat) : ((List.range k).map fun (j : Nat) => 2 * ((c + j : Nat) : Int)).Nodup := by
  refine List.nodup_iff_pairwise_ne.2 (List.pairwise_map.2 ((List.nodup_iff_pairwise_ne.1 List.nodup_range).imp fun h => by omega))
theorem dbl_next {v : Int} (h0 : 0 ≤ v) (h1 : v + 1 < n) : (nextOf (dbl n k) [] (dblD n) v).length = k ∧ ∀ e ∈ nextOf (dbl n k) [] (dblD n) v, ((dbl n k).ends e).2.1 = v + 1 := by
  have hg := dbl_ok hn hn' hk hm
  constructor
  · have hp : (nextOf (dbl n k) [] (dblD n) v).Perm ((List.range k).map fun (j : Nat) => 2 * (((v.toNat * k + j : Nat)) : Int)) :=
      (List.perm_ext_iff_of_nodup (next_nodup _ _ _ _) (nodup_dbl _ _)).2 fun e => dbl_next_mem hn hn' hk hm h0 h1
    rw [hp.length_eq]; simp
  · intro e he
    obtain ⟨⟨e0, e1⟩, e3, e4, e5, e6, _, _⟩ := nextOf_mem hg he
    obtain ⟨q, c, hq, hqc, hq2, h, hme⟩ := dbl_edge hn hn' hk hm e0 e1
    rw [hme] at e6
    rcases h with ⟨h, hh⟩ | ⟨h, hh⟩
    · rw [hh] at e3 ⊢
      simp only at e3 ⊢
      omega
    · rw [hh] at e3 e6
      simp only at e3 e6
      rw [dblD_at h0 (by omega), dblD_at (by omega) (by omega)] at e6
      omega
omit hn hn' hk hm in
theorem flat_len {α β : Type} {f : α → List β} {c : Nat} : ∀ (l : List α), (∀ x ∈ l, (f x).length = c) → (l.flatMap f).length = l.length * c
  | [], _ => by simp
  | x :: r, h => by
    rw [List.flatMap_cons, List.length_append, h x (by simp), flat_len r fun y hy => h y (by simp [hy]), List.length_cons, Nat.succ_mul, Nat.add_comm]
theorem dbl_bks : ∀ (j : Nat) (v : Int), 0 ≤ v → v + j + 1 = n → (bks (dbl n k) [] (dblD n) v).length = k ^ j ∧ ∀ x ∈ bks (dbl n k) [] (dblD n) v, x = j := by
  have hg := dbl_ok hn hn' hk hm
  intro j
  induction j with
  | zero =>
    intro v v0 hv
    rw [bks_zero (by rw [dblD_at v0 (by omega)]; omega)]
    simp
  | succ j ih =>
    intro v v0 hv
    obtain ⟨n1, n2⟩ := dbl_next hn hn' hk hm v0 (by omega)
    obtain ⟨i1, i2⟩ := ih (v + 1) (by omega) (by omega)
    rw [bks_step hg (by rw [dblD_at v0 (by omega)]; omega)]
    constructor
    · rw [flat_len (c := k ^ j) _ fun e he => by rw [List.length_map, n2 e he, i1], n1, Nat.pow_succ, Nat.mul_comm]
    · intro x hx
      obtain ⟨e, he, hx⟩ := List.mem_flatMap.1 hx
      obtain ⟨y, hy, rfl⟩ := List.mem_map.1 hx
      rw [n2 e he] at hy
      rw [i2 y hy]
theorem dbl_ref : refFrom (dbl n k) [] ((n : Int) - 1) = dblD n ∧ refFrom (dbl n k) [] 0 = dblA n := by
  have hg := dbl_ok hn hn' hk hm
  exact ⟨dist_uniq hg (refFrom_dist hg ⟨by omega, by show (n : Int) - 1 < (n : Int); omega⟩) (dbl_dist hn hn' hk hm), dist_uniq hg (refFrom_dist hg ⟨by omega, by show (0 : Int) < (n : Int); omega⟩) (dbl_distA hn hn' hk hm)⟩
theorem dbl_ways : waysOf (dbl n k) [] 0 ((n : Int) - 1) = (cap (k ^ (n - 1)), (n : Int) - 1, (n : Int) - 1, true) := by
  have hg := dbl_ok hn hn' hk hm
  have hd := dbl_dist hn hn' hk hm
  obtain ⟨b1, b2⟩ := dbl_bks hn hn' hk hm (n - 1) 0 (Int.le_refl _) (by omega)
  have h0 : (0 : Int) < (n : Int) := by omega
  have hat : at0 (dblD n) 0 = 5 * ((n : Int) - 1 - 0) := dblD_at (Int.le_refl _) h0
  unfold waysOf
  rw [(dbl_ref hn hn' hk hm).1, if_pos ⟨fun h => by have := hd.len; rw [h] at this; simp [dbl] at this; omega, ⟨Int.le_refl _, h0⟩, by rw [hat]; omega⟩]
  obtain ⟨c1, c2, c3⟩ := cnt_bks hg hd _ 0 (Nat.le_refl _) ⟨Int.le_refl _, h0⟩ (by rw [hat]; omega)
  have hne := bks_ne hg hd _ 0 (Nat.le_refl _) ⟨Int.le_refl _, h0⟩ (by rw [hat]; omega)
  rw [c1, c2, c3, b1]
  have e1 : hi (bks (dbl n k) [] (dblD n) 0) = n - 1 := b2 _ (hi_in _ hne)
  have e2 : lo (dbl n k).n.toNat (bks (dbl n k) [] (dblD n) 0) = n - 1 := by
    obtain ⟨x, hx⟩ := List.exists_mem_of_ne_nil _ hne
    have h1 := lo_mem (dbl n k).n.toNat _ hx
    rw [b2 x hx] at h1
    rcases lo_in (dbl n k).n.toNat (bks (dbl n k) [] (dblD n) 0) with h | h
    · have : (dbl n k).n.toNat = n := by simp [dbl]
      omega
    · exact b2 _ h
  rw [e1, e2]
  have : ((n - 1 : Nat) : Int) = (n : Int) - 1 := by omega
  rw [this]
theorem dbl_uses : (usesOf (dbl n k) [] 0 ((n : Int) - 1)).length = (n - 1) * k := by
  have hg := dbl_ok hn hn' hk hm
  have hl := dbl_len hn hn' hk hm
  have h0 : (0 : Int) < (n : Int) := by omega
  obtain ⟨r1, r2⟩ := dbl_ref hn hn' hk hm
  have hA := dbl_distA hn hn' hk hm
  have hD := dbl_dist hn hn' hk hm
  unfold usesOf
  rw [r1, r2, if_neg (fun h => ?_)]
  · have hp : ((upto (2 * (dbl n k).ls.length)).filter (usesCond (dbl n k) [] (dblA n) (dblD n) ((n : Int) - 1))).Perm ((List.range ((n - 1) * k)).map fun (j : Nat) => 2 * ((0 + j : Nat) : Int)) := by
      refine (List.perm_ext_iff_of_nodup (((upto_sorted _).imp fun h => by omega).filter _) (nodup_dbl _ _)).2 fun e => ?_
      rw [uses_mem]
      constructor
      · rintro ⟨⟨e0, e1⟩, _, x1, x2, x3⟩
        obtain ⟨q, c, hq, hqc, hq2, h, hme⟩ := dbl_edge hn hn' hk hm e0 e1
        rcases h with ⟨h, hh⟩ | ⟨h, hh⟩
        · exact List.mem_map.2 ⟨q, List.mem_range.2 hq, by rw [Nat.zero_add, h]⟩
        · rw [hh, hme] at x3
          simp only at x3
          rw [dblA_at (by omega) (by omega), dblD_at (by omega) (by omega), dblA_at (by omega) (by omega)] at x3
          omega
      · intro he
        obtain ⟨q, hq, rfl⟩ := List.mem_map.1 he
        have hq' := List.mem_range.1 hq
        rw [Nat.zero_add]
        have hdiv : q / k < n - 1 := (Nat.div_lt_iff_lt_mul (by omega)).2 hq'
        obtain ⟨f1, _, f3, _⟩ := dbl_fwd hn hn' hk hm hq' rfl
        generalize q / k = c at *
        refine ⟨⟨by omega, by rw [hl]; omega⟩, ?_, ?_, ?_, ?_⟩
        · unfold isDown
          have : ¬ (2 * (q : Int)) / 2 < ((([] : List Bool).length : Nat) : Int) := by simp
          rw [decide_eq_false this]; simp
        · rw [f1]; simp only; rw [dblA_at (by omega) (by omega)]; omega
        · rw [f1]; simp only; rw [dblD_at (by omega) (by omega)]; omega
        · rw [f1, f3]; simp only; rw [dblA_at (by omega) (by omega), dblD_at (by omega) (by omega), dblA_at (by omega) (by omega)]; omega
    rw [hp.length_eq]; simp
  · rcases h with h | h | h
    · have := hA.len; rw [h] at this; simp [dbl] at this; omega
    · have := hD.len; rw [h] at this; simp [dbl] at this; omega
    · rw [dblA_at (by omega) (by omega)] at h; omega
end
theorem cap_mul {a k : Nat} (hk : 1 ≤ k) (hk' : k ≤ 3) : cutS (cap a * (k : Int)) = cap (a * k) := by
  have : k = 1 ∨ k = 2 ∨ k = 3 := by omega
  unfold cutS cap
  rcases this with rfl | rfl | rfl
  all_goals
    by_cases h1 : (a : Int) < 1099511627776
    · rw [if_pos h1, if_neg (by omega)]
      split <;> split <;> omega
    · rw [if_neg h1, if_neg (by omega), if_neg (c := ((_ : Nat) : Int) < 1099511627776) (by omega)]
      split <;> omega
end Go.Proofs

set_option linter.unusedSimpArgs false
set_option linter.unusedVariables false
namespace Go.Proofs
open Go.Ab

theorem rowAt_freeze {σ : Store} {p : Nat → Bool} {id ver : Nat} {fz : Bool} {sz : Nat} {xs : List (List AVal)} (h : Ab.rowAt σ id ver = some (fz, sz, xs)) : Ab.rowAt (σ.freeze p) id ver = some (fz || p id, sz, xs) := by
  unfold Ab.rowAt at h ⊢
  rw [Store.get_freeze]
  cases hg : σ.get id with
  | none => rw [hg] at h; cases h
  | some o =>
    rw [hg] at h
    cases o with
    | mp es => cases h
    | row v f s ys =>
      simp only at h ⊢
      split at h
      · rename_i e
        rw [if_pos e]
        simp only [Option.some.injEq, Prod.mk.injEq] at h ⊢
        obtain ⟨rfl, rfl, rfl⟩ := h
        exact ⟨rfl, rfl, rfl⟩
      · cases h
theorem scalars_reach {σ : Store} {m : Nat} : ∀ (ys : List (List AVal)), (∀ y ∈ ys, ∀ c ∈ y, ∃ v, c = .sc v) → ys.flatMap (fun c => c.flatMap (reach (m + 1) σ)) = [] := fun ys h => by
  refine List.flatMap_eq_nil_iff.2 fun y hy => List.flatMap_eq_nil_iff.2 fun c hc => ?_
  obtain ⟨v, rfl⟩ := h y hy c hc
  rfl
theorem reach_sl {σ : Store} {m id ver off len sz s : Nat} {fz : Bool} {xs : List (List AVal)} (h : Ab.rowAt σ id ver = some (fz, s, xs)) : reach (m + 1) σ (.sl id ver off len sz) = id :: ((xs.drop off).take len).flatMap (fun c => c.flatMap (reach m σ)) := by
  simp only [reach, h]
theorem reach_agg {σ : Store} {m : Nat} {cs : List AVal} : reach (m + 1) σ (.agg cs) = cs.flatMap (reach m σ) := rfl
theorem reach_sc {σ : Store} {m : Nat} {v : Value} : reach (m + 1) σ (.sc v) = [] := rfl
theorem reach_nils {σ : Store} {m : Nat} : reach (m + 1) σ .nils = [] := rfl
/-- A slice of one's own, once frozen. -/
theorem acc_fz {σ : Store} {v : AVal} {rows : List (List AVal)} {sz : Nat} {others : List Nat} (h : Acc σ sz v rows others) (hs : ∀ y ∈ rows, ∀ c ∈ y, ∃ v, c = .sc v) :
    (∀ m, Out (m + 2) (σ.freeze fun _ => true) v (.lst rows)) ∧ (∀ m, ∀ id ∈ reach (m + 2) (σ.freeze fun _ => true) v, Fz (σ.freeze fun _ => true) id) := by
  rcases h.2 with ⟨rfl, rfl⟩ | ⟨i, ver, off, xs, rfl, h2, h3, h4, h5⟩
  · exact ⟨fun m => out_nils, fun m id hid => by cases hid⟩
  · have h6 := rowAt_freeze (p := fun _ => true) h2
    refine ⟨fun m => out_sl h6 h4 h5 hs, fun m id hid => ?_⟩
    rw [reach_sl h6, h5, scalars_reach rows hs] at hid
    have hid' : id = i := List.mem_singleton.1 hid
    subst hid'
    unfold Ab.rowAt at h6
    cases hg : (σ.freeze fun _ => true).get id with
    | none => rw [hg] at h6; cases h6
    | some o =>
      rw [hg] at h6
      cases o with
      | mp es => cases h6
      | row v' f s ys =>
        refine ⟨_, hg, ?_⟩
        simp only at h6
        split at h6
        · simp only [Option.some.injEq, Prod.mk.injEq] at h6
          simpa [Obj.fz] using h6.1
        · cases h6
def lrows (ls : List Lk) : List (List AVal) := ls.map Lk.row
theorem lrows_app (a b : List Lk) : lrows (a ++ b) = lrows a ++ lrows b := by simp [lrows]
theorem lrows_len (a : List Lk) : (lrows a).length = a.length := by simp [lrows]

theorem cap_bound (a : Nat) : 0 ≤ cap a ∧ cap a ≤ 1099511627776 := by
  unfold cap
  by_cases h : (a : Int) < 1099511627776
  · rw [if_pos h]; omega
  · rw [if_neg h]; omega
theorem capk (a : Nat) {k : Nat} (hk : 1 ≤ k) (hk' : k ≤ 3) : 0 ≤ cap a * (k : Int) ∧ cap a * (k : Int) ≤ 3298534883328 := by
  obtain ⟨h1, h2⟩ := cap_bound a
  generalize cap a = c at *
  have : k = 1 ∨ k = 2 ∨ k = 3 := by omega
  rcases this with rfl | rfl | rfl <;> omega
theorem doubles_ok (n k : Int) : PGood Try.prog 4 [.i n, .i k] (.b true) := by
  refine pgood_of_out 2 (good_of_wp isF4 (Nat.le_refl _) ?_)
  unfold ac4
  simp only [go_sem, simprocAttr]
  refine good_imm alive_ok rfl ?_
  simp only [go_sem, simprocAttr]
  by_cases h1 : n < 1
  · simp only [go_sem, simprocAttr, h1]
    exact out_sc
  simp only [go_sem, simprocAttr, h1]
  by_cases h2 : 40 < n
  · simp only [go_sem, simprocAttr, h2]
    exact out_sc
  simp only [go_sem, simprocAttr, h2]
  by_cases h3 : k < 1
  · simp only [go_sem, simprocAttr, h3]
    exact out_sc
  simp only [go_sem, simprocAttr, h3]
  by_cases h4 : 3 < k
  · simp only [go_sem, simprocAttr, h4]
    exact out_sc
  obtain ⟨n, rfl⟩ : ∃ m : Nat, n = m := ⟨n.toNat, by omega⟩
  obtain ⟨k, rfl⟩ : ∃ m : Nat, k = m := ⟨k.toNat, by omega⟩
  have hn : 1 ≤ n := by omega
  have hn' : n ≤ 40 := by omega
  have hk : 1 ≤ k := by omega
  have hk' : k ≤ 3 := by omega
  have e1 : ((n : Int) - 1) = ((n - 1 : Nat) : Int) := by omega
  have w1 : IntKind.i64.wrap ((n : Int) - 1) = ((n - 1 : Nat) : Int) := by rw [wrap_id (by omega) (by omega), e1]
  have hmul : (n - 1) * k ≤ 117 := Nat.le_trans (Nat.mul_le_mul (show n - 1 ≤ 39 by omega) hk') (by omega)
  have w2 : IntKind.i64.wrap (((n - 1 : Nat) : Int) * (k : Int)) = (((n - 1) * k : Nat) : Int) := by
    rw [← Int.natCast_mul]; exact wrap_id (by omega) (by omega)
  have h5 : ¬ (120 : Int) < (((n - 1) * k : Nat) : Int) := by omega
  have hm : (n - 1) * k ≤ 120 := by omega
  simp only [go_sem, simprocAttr, h4, w1, w2, h5]
  intro gid hgid
  simp only [go_sem, simprocAttr]
  let I : Nat → Fr → Store → Prop := fun m fr τ => ∃ (i : Nat) (v : AVal), i ≤ n - 1 ∧ m = n - 1 - i ∧ fr = [(0, .i n), (1, .i k), (6, .ptr gid 0 0 0), (7, .i i)] ∧ τ.get gid = some (.row 0 false 2 [[.sc (.int .i64 n), v]]) ∧ Acc τ 4 v (lrows (dblL k i)) [gid]
  refine loop_rule I (n - 1) ⟨0, .nils, by omega, rfl, rfl, by simp, acc_nils (alive_cons (Store.get_set_self _ _ _) alive_nil)⟩ ?_
  rintro m fr τ ⟨i, v, hi, rfl, rfl, g1, acc⟩
  have w3 : IntKind.i64.wrap ((i : Int) + 1) = ((i + 1 : Nat) : Int) := by rw [wrap_id (by omega) (by omega)]; rfl
  simp only [go_sem, simprocAttr, w3]
  refine .intro (fun hil => ?_) (fun hil => ?_)
  · have hil' : i < n - 1 := by omega
    have hlen := dblL_len k i
    have hik : (i + 1) * k ≤ (n - 1) * k := Nat.mul_le_mul_right k (by omega)
    rw [Nat.succ_mul] at hik
    simp only [go_sem, simprocAttr]
    let J : Nat → Fr → Store → Prop := fun m fr τ => ∃ (j : Nat) (v : AVal), j ≤ k ∧ m = k - j ∧ fr = [(0, .i n), (1, .i k), (6, .ptr gid 0 0 0), (7, .i i), (8, .i j)] ∧ τ.get gid = some (.row 0 false 2 [[.sc (.int .i64 n), v]]) ∧
      Acc τ 4 v (lrows (dblL k i ++ List.replicate j ⟨(i : Int), (i : Int) + 1, 5, 0⟩)) [gid]
    refine loop_rule J k ⟨0, v, by omega, rfl, rfl, g1, by simpa using acc⟩ ?_
    clear g1 acc
    rintro m fr τ2 ⟨j, v, hj, rfl, rfl, g1, acc⟩
    simp only [go_sem, simprocAttr]
    refine .intro (fun hjl => ?_) (fun hjl => ?_)
    · have hjl' : j < k := by omega
      have w4 : IntKind.i64.wrap ((j : Int) + 1) = ((j + 1 : Nat) : Int) := by rw [wrap_id (by omega) (by omega)]; rfl
      simp only [go_sem, simprocAttr, rowAt_get g1, w3]
      intro tid htid
      have acc2 := acc.fresh htid (.row 0 false 4 [[.sc (.int .i64 i), .sc (.int .i64 ((i + 1 : Nat) : Int)), .sc (.int .i64 5), .sc (.int .i64 0)]])
      have hb : (dblL k i ++ List.replicate j (⟨(i : Int), (i : Int) + 1, 5, 0⟩ : Lk)).length ≤ 200 := by simp; omega
      simp only [go_sem, simprocAttr]
      refine acc_append acc2 (by rw [lrows_len]; simp only [List.length_cons, List.length_nil]; omega) (by rw [lrows_len]; simp only [List.length_cons, List.length_nil]; omega) fun v' σ' c1 c2 => ?_
      have g2 : σ'.get gid = some (.row 0 false 2 [[.sc (.int .i64 n), v]]) := by rw [c2 gid (by simp), get_fresh htid (by rw [g1]; rfl), g1]
      have hkn := c1.known
      simp only [go_sem, simprocAttr, rowAt_get g2, hkn, w4]
      have er : lrows (dblL k i ++ List.replicate j ⟨(i : Int), (i : Int) + 1, 5, 0⟩) ++ [[.sc (.int .i64 i), .sc (.int .i64 ((i + 1 : Nat) : Int)), .sc (.int .i64 5), .sc (.int .i64 0)]] = lrows (dblL k i ++ List.replicate (j + 1) ⟨(i : Int), (i : Int) + 1, 5, 0⟩) := by
        rw [List.replicate_succ', ← List.append_assoc, lrows_app _ [_]]
        rfl
      rw [er] at c1
      exact back_of (k - (j + 1)) (by omega) ⟨j + 1, v', hjl', rfl, rfl, by simp, (c1.other (by simp) _).less (by simp)⟩
    · have ej : j = k := by omega
      subst ej
      rw [← dblL_succ] at acc
      simp only [go_sem, simprocAttr, w3]
      exact back_of (n - 1 - (i + 1)) (by omega) ⟨i + 1, v, hil', rfl, rfl, g1, acc⟩
  · have ei : i = n - 1 := by omega
    subst ei
    simp only [go_sem, simprocAttr]
    refine loop_rule (fun m fr τ2 => ∃ (j : Nat), j ≤ n - 1 ∧ m = n - 1 - j ∧ fr = [(0, .i n), (1, .i k), (6, .ptr gid 0 0 0), (9, .i (cap (k ^ j))), (10, .i j)] ∧ τ2 = τ) (n - 1) ⟨0, by omega, rfl, ?_, rfl⟩ ?_
    · have : cap (k ^ 0) = 1 := by rw [Nat.pow_zero]; rfl
      rw [this]; rfl
    rintro m fr τ2 ⟨j, hj, rfl, rfl, rfl⟩
    have w4 : IntKind.i64.wrap ((j : Int) + 1) = ((j + 1 : Nat) : Int) := by rw [wrap_id (by omega) (by omega)]; rfl
    simp only [go_sem, simprocAttr, w4]
    refine .intro (fun hjl => ?_) (fun hjl => ?_)
    · have hjl' : j < n - 1 := by omega
      have hcap := cap_mul (a := k ^ j) hk hk'
      have hb := cap_bound (k ^ j)
      have w5 : IntKind.i64.wrap (cap (k ^ j) * (k : Int)) = cap (k ^ j) * (k : Int) := by
        obtain ⟨h3, h4⟩ := capk (k ^ j) hk hk'
        exact wrap_id (Int.le_trans (by decide) h3) (Int.lt_of_le_of_lt h4 (by decide))
      simp only [go_sem, simprocAttr, w5]
      refine good_imm (cut_ok (cap (k ^ j) * (k : Int)) 0 1099511627776) rfl ?_
      have hcut : (if cap (k ^ j) * (k : Int) < 0 then 0 else if 1099511627776 < cap (k ^ j) * (k : Int) then 1099511627776 else cap (k ^ j) * (k : Int)) = cap (k ^ (j + 1)) := by
        rw [Nat.pow_succ, ← hcap]; rfl
      rw [hcut]
      simp only [go_sem, simprocAttr, w4]
      exact back_of (n - 1 - (j + 1)) (by omega) ⟨j + 1, hjl', rfl, rfl, rfl⟩
    · have ej : j = n - 1 := by omega
      subst ej
      obtain ⟨o1, o2⟩ := acc_fz acc (links_sc (dblL k (n - 1)))
      have hgv : (dbl n k).val = .agg [.i n, .lst (lrows (dblL k (n - 1)))] := rfl
      have hw := dbl_ways hn hn' hk hm
      have hu := dbl_uses hn hn' hk hm
      rw [e1] at hw hu
      have hu' : (dusesOf (dbl n k) [] 0 ((n - 1 : Nat) : Int)).length = (n - 1) * k := by rw [duses_eq]; exact hu
      simp only [go_sem, simprocAttr, rowAt_get g1, w1]
      refine Good.freeze (fun _ => true) (good_out 3 (outL4 (out_agg2 (c := .i n) (d := .lst (lrows (dblL k (n - 1)))) out_sc (acc_out acc (links_sc _))) out_nils out_sc out_sc) (by rw [← hgv]; exact hops_ok (dbl n k) [] 0 ((n - 1 : Nat) : Int)) rfl ?_)
      rw [(dag_eq _ _ _ _).2, hw]
      have r1 := rowAt_freeze (p := fun _ => true) (rowAt_get g1)
      simp only [go_sem, simprocAttr]
      unfold op4_81
      simp only [go_sem, simprocAttr, r1, w1]
      refine goodD_out 3 (outL4 (out_agg2 (c := .i n) (d := .lst (lrows (dblL k (n - 1)))) out_sc (o1 0)) out_nils out_sc out_sc) (by rw [← hgv]; exact count_ok (dbl n k) [] 0 ((n - 1 : Nat) : Int)) rfl ?_
      rw [(dag_eq _ _ _ _).1, hw]
      simp only [go_sem, simprocAttr, r1, w1]
      refine goodD_fz 3 (outL4 (out_agg2 (c := .i n) (d := .lst (lrows (dblL k (n - 1)))) out_sc (o1 0)) out_nils out_sc out_sc) (by rw [← hgv]; exact duses_ok (dbl n k) [] 0 ((n - 1 : Nat) : Int)) (fun id hid => o2 0 id (by simpa only [reachL, List.flatMap_cons, List.flatMap_nil, reach_agg, reach_sc, reach_nils, List.append_nil, List.nil_append] using hid)) ?_
      have hz : (lrows (dblL k (n - 1))).length = (n - 1) * k := by rw [lrows_len, dblL_len]
      rcases acc.2 with ⟨rfl, hr⟩ | ⟨id, ver, off, xs, rfl, _⟩
      · have h0 : (n - 1) * k = 0 := by rw [← hz, hr]; rfl
        rw [h0] at hu'
        simp only [go_sem, simprocAttr, r1, hu']
        exact out_sc
      · simp only [go_sem, simprocAttr, r1, hu', hz]
        exact out_sc
end Go.Proofs

set_option linter.unusedSimpArgs false
set_option linter.unusedVariables false
set_option linter.unusedSectionVars false
namespace Go.Proofs
open Go.Ab

/-! ### A graph whose links all lead from what is farther to what is nearer -/
structure Lay (g : Gr) (src dst : Int) (a d : List Int) : Prop where
  ok : g.Ok
  la : a.length = g.n.toNat
  ld : d.length = g.n.toNat
  s0 : (0 ≤ src ∧ src < g.n) ∧ at0 a src = 0
  d0 : (0 ≤ dst ∧ dst < g.n) ∧ at0 d dst = 0
  nn : ∀ v, 0 ≤ v → v < g.n → 0 ≤ at0 a v ∧ 0 ≤ at0 d v ∧ at0 a v + at0 d v = at0 a dst
  fwd : ∀ l ∈ g.ls, at0 d l.a = at0 d l.b + l.m ∧ at0 a l.b = at0 a l.a + l.m
  outs : ∀ v, 0 ≤ v → v < g.n → v ≠ dst → ∃ l ∈ g.ls, l.a = v
  ins : ∀ v, 0 ≤ v → v < g.n → v ≠ src → ∃ l ∈ g.ls, l.b = v

section
variable {g : Gr} {src dst : Int} {a d : List Int} (h : Lay g src dst a d)
include h
theorem lay_edge {e : Int} (h0 : 0 ≤ e) (h1 : e < 2 * (g.ls.length : Int)) : ∃ l ∈ g.ls, g.ls[(e / 2).toNat]? = some l ∧ g.metric e = l.m ∧ 1 ≤ l.m ∧ ((e % 2 = 0 ∧ g.ends e = (l.a, l.b, true)) ∨ (e % 2 = 1 ∧ g.ends e = (l.b, l.a, true))) := by
  have hlt : (e / 2).toNat < g.ls.length := by omega
  have hg := List.getElem?_eq_getElem hlt
  refine ⟨g.ls[(e / 2).toNat], List.getElem_mem hlt, hg, by unfold Gr.metric; rw [hg], ?_, ?_⟩
  · have := (g.metric_of h.ok h0 h1).1
    unfold Gr.metric at this
    rw [hg] at this
    exact this
  · unfold Gr.ends
    rw [if_neg (by omega), hg]
    simp only
    by_cases he : e % 2 = 1
    · right; rw [if_pos he]; exact ⟨he, rfl⟩
    · left; rw [if_neg he]; exact ⟨by omega, rfl⟩
theorem lay_of {l : Lk} (hl : l ∈ g.ls) : ∃ q : Nat, q < g.ls.length ∧ g.ends (2 * (q : Int)) = (l.a, l.b, true) ∧ g.ends (2 * (q : Int) + 1) = (l.b, l.a, true) ∧ g.metric (2 * (q : Int)) = l.m ∧ g.metric (2 * (q : Int) + 1) = l.m := by
  obtain ⟨q, hq⟩ := List.getElem?_of_mem hl
  have hlt : q < g.ls.length := (List.getElem?_eq_some_iff.1 hq).1
  have key : ∀ e : Int, e / 2 = q → g.ends e = (if e % 2 = 1 then (l.b, l.a, true) else (l.a, l.b, true)) ∧ g.metric e = l.m := fun e he => by
    have hg' : g.ls[(e / 2).toNat]? = some l := by rw [he, Int.toNat_natCast]; exact hq
    refine ⟨?_, by unfold Gr.metric; rw [hg']⟩
    unfold Gr.ends
    rw [if_neg (by omega), hg']
  have k1 := key (2 * (q : Int)) (by omega)
  have k2 := key (2 * (q : Int) + 1) (by omega)
  rw [if_neg (by omega)] at k1
  rw [if_pos (by omega)] at k2
  exact ⟨q, hlt, k1.1, k2.1, k1.2, k2.2⟩
theorem lay_rng {l : Lk} (hl : l ∈ g.ls) : (0 ≤ l.a ∧ l.a < g.n) ∧ (0 ≤ l.b ∧ l.b < g.n) ∧ 1 ≤ l.m := by
  obtain ⟨h1, h2, _, h3, _⟩ := g.link_of h.ok hl
  exact ⟨h1, h2, h3⟩
theorem lay_dist : IsDist g [] dst d := by
  refine ⟨h.ld, h.d0.2, fun v v0 v1 => .inr (h.nn v v0 v1).2.1, fun e he hp => ?_, fun v v0 v1 hp => ?_⟩
  · obtain ⟨l, hl, _, hm, hm1, hc⟩ := lay_edge h he.1 he.2.1
    have hf := (h.fwd l hl).1
    obtain ⟨r1, r2, _⟩ := lay_rng h hl
    have n1 := (h.nn l.a r1.1 r1.2).2.1
    have n2 := (h.nn l.b r2.1 r2.2).2.1
    rw [hm]
    rcases hc with ⟨_, hc⟩ | ⟨_, hc⟩ <;> rw [hc] <;> simp only <;> omega
  · by_cases hv : v = dst
    · left; subst hv; exact ⟨rfl, h.d0.2⟩
    · right
      obtain ⟨l, hl, rfl⟩ := h.outs v v0 v1 hv
      obtain ⟨q, hq, e1, e2, m1, m2⟩ := lay_of h hl
      obtain ⟨r1, r2, _⟩ := lay_rng h hl
      refine ⟨2 * (q : Int) + 1, ⟨by omega, by omega, up_nil _ (by omega)⟩, by rw [e2], ?_, ?_⟩
      · rw [e2]; exact (h.nn l.b r2.1 r2.2).2.1
      · rw [e2, m2]; exact (h.fwd l hl).1
theorem lay_distA : IsDist g [] src a := by
  refine ⟨h.la, h.s0.2, fun v v0 v1 => .inr (h.nn v v0 v1).1, fun e he hp => ?_, fun v v0 v1 hp => ?_⟩
  · obtain ⟨l, hl, _, hm, hm1, hc⟩ := lay_edge h he.1 he.2.1
    have hf := (h.fwd l hl).2
    obtain ⟨r1, r2, _⟩ := lay_rng h hl
    have n1 := (h.nn l.a r1.1 r1.2).1
    have n2 := (h.nn l.b r2.1 r2.2).1
    rw [hm]
    rcases hc with ⟨_, hc⟩ | ⟨_, hc⟩ <;> rw [hc] <;> simp only <;> omega
  · by_cases hv : v = src
    · left; subst hv; exact ⟨rfl, h.s0.2⟩
    · right
      obtain ⟨l, hl, rfl⟩ := h.ins v v0 v1 hv
      obtain ⟨q, hq, e1, e2, m1, m2⟩ := lay_of h hl
      obtain ⟨r1, r2, _⟩ := lay_rng h hl
      refine ⟨2 * (q : Int), ⟨by omega, by omega, up_nil _ (by omega)⟩, by rw [e1], ?_, ?_⟩
      · rw [e1]; exact (h.nn l.a r1.1 r1.2).1
      · rw [e1, m1]; exact (h.fwd l hl).2
theorem lay_ref : refFrom g [] dst = d ∧ refFrom g [] src = a :=
  ⟨dist_uniq h.ok (refFrom_dist h.ok h.d0.1) (lay_dist h), dist_uniq h.ok (refFrom_dist h.ok h.s0.1) (lay_distA h)⟩
theorem lay_uses : (usesOf g [] src dst).length = g.ls.length := by
  obtain ⟨r1, r2⟩ := lay_ref h
  have hdst := h.d0.1
  have hsrc := h.s0.1
  have ha0 := (h.nn dst hdst.1 hdst.2).1
  unfold usesOf
  rw [r1, r2, if_neg (fun hh => ?_)]
  · have hp : ((upto (2 * g.ls.length)).filter (usesCond g [] a d dst)).Perm ((List.range g.ls.length).map fun (j : Nat) => 2 * ((0 + j : Nat) : Int)) := by
      refine (List.perm_ext_iff_of_nodup (((upto_sorted _).imp fun h => by omega).filter _) (nodup_dbl _ _)).2 fun e => ?_
      rw [uses_mem]
      constructor
      · rintro ⟨⟨e0, e1⟩, _, x1, x2, x3⟩
        obtain ⟨l, hl, _, hm, hm1, hc⟩ := lay_edge h e0 e1
        have hf := h.fwd l hl
        obtain ⟨v1, v2, _⟩ := lay_rng h hl
        have n1 := (h.nn l.a v1.1 v1.2).2.2
        have n2 := (h.nn l.b v2.1 v2.2).2.2
        rcases hc with ⟨hc, hh⟩ | ⟨hc, hh⟩
        · exact List.mem_map.2 ⟨(e / 2).toNat, List.mem_range.2 (by omega), by omega⟩
        · rw [hh, hm] at x3
          simp only at x3
          omega
      · intro he
        obtain ⟨q, hq, rfl⟩ := List.mem_map.1 he
        have hq' := List.mem_range.1 hq
        rw [Nat.zero_add]
        obtain ⟨l, hl, _, hm, hm1, hc⟩ := lay_edge h (e := 2 * (q : Int)) (by omega) (by omega)
        have hf := h.fwd l hl
        obtain ⟨v1, v2, _⟩ := lay_rng h hl
        have n1 := h.nn l.a v1.1 v1.2
        have n2 := h.nn l.b v2.1 v2.2
        rcases hc with ⟨hc, hh⟩ | ⟨hc, hh⟩
        · refine ⟨⟨by omega, by omega⟩, ?_, ?_, ?_, ?_⟩
          · unfold isDown
            have : ¬ (2 * (q : Int)) / 2 < ((([] : List Bool).length : Nat) : Int) := by simp
            rw [decide_eq_false this]; simp
          · rw [hh]; exact n1.1
          · rw [hh]; exact n2.2.1
          · rw [hh, hm]; simp only; omega
        · omega
    rw [hp.length_eq]; simp
  · rcases hh with hh | hh | hh
    · have := h.la; rw [hh] at this; simp at this; omega
    · have := h.ld; rw [hh] at this; simp at this; omega
    · omega

/-- Where a node's edges that lead nearer end. -/
theorem lay_next {v : Int} (hv : 0 ≤ v ∧ v < g.n) (hp : 0 < at0 d v) : (nextOf g [] d v).map (fun e => (g.ends e).2.1) = (g.ls.filter fun l => decide (l.a = v)).map (·.b) := by
  have key : ∀ k, k ≤ g.ls.length → ((g.outN v (2 * k)).filter (nextCond g [] d v)).map (fun e => (g.ends e).2.1) = ((g.ls.take k).filter fun l => decide (l.a = v)).map (·.b) := by
    intro k
    induction k with
    | zero => intro _; simp [Gr.outN]
    | succ k ih =>
      intro hk
      have hlt : k < g.ls.length := by omega
      have ih := ih (by omega)
      rw [show 2 * (k + 1) = 2 * k + 1 + 1 by omega, Gr.outN_succ, Gr.outN_succ, List.take_succ_eq_append_getElem hlt, List.filter_append, List.map_append, ← ih]
      have hl := List.getElem_mem hlt
      have hf := (h.fwd _ hl).1
      obtain ⟨v1, v2, hm1⟩ := lay_rng h hl
      have n2 := (h.nn _ v2.1 v2.2).2.1
      have k0 : g.ends ((2 * k : Nat) : Int) = (g.ls[k].a, g.ls[k].b, true) ∧ g.metric ((2 * k : Nat) : Int) = g.ls[k].m := by
        have e2 : (((2 * k : Nat) : Int) / 2).toNat = k := by omega
        unfold Gr.ends Gr.metric
        rw [e2, List.getElem?_eq_getElem hlt, if_neg (by omega)]
        simp only
        rw [if_neg (by omega)]
        exact ⟨rfl, trivial⟩
      have k1 : g.ends ((2 * k + 1 : Nat) : Int) = (g.ls[k].b, g.ls[k].a, true) ∧ g.metric ((2 * k + 1 : Nat) : Int) = g.ls[k].m := by
        have e2 : (((2 * k + 1 : Nat) : Int) / 2).toNat = k := by omega
        unfold Gr.ends Gr.metric
        rw [e2, List.getElem?_eq_getElem hlt, if_neg (by omega)]
        simp only
        rw [if_pos (by omega)]
        exact ⟨rfl, trivial⟩
      generalize g.ls[k] = l at *
      have c0 : l.a = v → nextCond g [] d v ((2 * k : Nat) : Int) = true := fun hv => by
        unfold nextCond
        rw [up_nil _ (by omega), k0.1, k0.2]
        have q1 : 0 ≤ at0 d l.b := n2
        have q2 : at0 d v = at0 d l.b + l.m := by rw [← hv]; exact hf
        rw [decide_eq_true q1, decide_eq_true q2]; rfl
      have c1 : l.b = v → nextCond g [] d v ((2 * k + 1 : Nat) : Int) = false := fun hv => by
        unfold nextCond
        rw [k1.1, k1.2]
        have q2 : ¬ at0 d v = at0 d l.a + l.m := by rw [← hv]; omega
        rw [decide_eq_false q2]; simp
      rw [k1.1, k0.1]
      simp only
      have back : ∀ X : List Int, (if l.b = v then X ++ [((2 * k + 1 : Nat) : Int)] else X).filter (nextCond g [] d v) = X.filter (nextCond g [] d v) := fun X => by
        by_cases hb : l.b = v
        · rw [if_pos hb, List.filter_append, List.filter_cons_of_neg (by rw [c1 hb]; simp), List.filter_nil, List.append_nil]
        · rw [if_neg hb]
      rw [back]
      by_cases hv' : l.a = v
      · rw [if_pos hv', List.filter_append, List.filter_cons_of_pos (c0 hv'), List.filter_nil, List.map_append]
        have hf1 : [l].filter (fun l => decide (l.a = v)) = [l] := by simp [hv']
        rw [hf1]
        congr 1
        show [(g.ends ((2 * k : Nat) : Int)).2.1] = [l.b]
        rw [k0.1]
      · rw [if_neg hv', List.filter_cons_of_neg (by rw [decide_eq_false hv']; simp), List.filter_nil, List.map_nil, List.append_nil]
  have := key g.ls.length (Nat.le_refl _)
  rw [List.take_length] at this
  rw [← this]
  unfold nextOf
  rw [if_pos ⟨g.check_ok.2 h.ok, by rw [h.ld]; have := h.ok.2.1; omega, hv, hp⟩]
  rfl
def sumL (f : Int → Nat) : List Int → Nat
  | [] => 0
  | x :: r => f x + sumL f r
omit h in
theorem flat_sum {f : Int → List Nat} {c : Int → Nat} {e2 : Int → Int} : ∀ (l : List Int), (∀ e ∈ l, (f (e2 e)).length = c (e2 e)) → (l.flatMap fun e => (f (e2 e)).map (· + 1)).length = sumL c (l.map e2)
  | [], _ => rfl
  | x :: r, hh => by
    rw [List.flatMap_cons, List.length_append, List.length_map, hh x (by simp), flat_sum r fun y hy => hh y (by simp [hy])]
    rfl
/-- How many shortest ways, by a table. -/
theorem lay_bks {p : Int → Nat} {m : Int} (hp0 : p dst = 1) (hp : ∀ v, 0 ≤ v → v < g.n → v ≠ dst → p v = sumL p ((g.ls.filter fun l => decide (l.a = v)).map (·.b))) (hm : ∀ l ∈ g.ls, l.m = m) (hm1 : 1 ≤ m) :
    ∀ (N : Nat) (v : Int), (at0 d v).toNat ≤ N → 0 ≤ v → v < g.n → (bks g [] d v).length = p v ∧ ∀ x ∈ bks g [] d v, m * (x : Int) = at0 d v := by
  intro N
  have zero : ∀ v, 0 ≤ v → v < g.n → at0 d v ≤ 0 → v = dst := fun v v0 v1 hv => by
    refine Decidable.byContradiction fun hne => ?_
    obtain ⟨l, hl, rfl⟩ := h.outs v v0 v1 hne
    have := (h.fwd l hl).1
    obtain ⟨_, r2, r3⟩ := lay_rng h hl
    have := (h.nn l.b r2.1 r2.2).2.1
    omega
  induction N with
  | zero =>
    intro v hN v0 v1
    have hz : at0 d v ≤ 0 := by omega
    have := zero v v0 v1 hz
    subst this
    rw [bks_zero hz, hp0]
    refine ⟨rfl, fun x hx => ?_⟩
    have : x = 0 := by simpa using hx
    rw [this, h.d0.2]; simp
  | succ N ih =>
    intro v hN v0 v1
    by_cases hz : at0 d v ≤ 0
    · have := zero v v0 v1 hz
      subst this
      rw [bks_zero hz, hp0]
      refine ⟨rfl, fun x hx => ?_⟩
      have : x = 0 := by simpa using hx
      rw [this, h.d0.2]; simp
    · have hpos : 0 < at0 d v := by omega
      have hne : v ≠ dst := fun e => by rw [e, h.d0.2] at hpos; omega
      rw [bks_step h.ok hpos]
      have hstep : ∀ e ∈ nextOf g [] d v, (0 ≤ (g.ends e).2.1 ∧ (g.ends e).2.1 < g.n) ∧ at0 d v = at0 d (g.ends e).2.1 + m := fun e he => by
        obtain ⟨⟨e0, e1⟩, _, e4, e5, e6, e7, _⟩ := nextOf_mem h.ok he
        obtain ⟨l, hl, _, hml, _, _⟩ := lay_edge h e0 e1
        rw [hml, hm l hl] at e6
        exact ⟨e4, e6⟩
      constructor
      · rw [flat_sum (c := p) (e2 := fun e => (g.ends e).2.1) _ fun e he => ?_, lay_next h ⟨v0, v1⟩ hpos, hp v v0 v1 hne]
        obtain ⟨k1, k2⟩ := hstep e he
        exact (ih _ (by omega) k1.1 k1.2).1
      · intro x hx
        obtain ⟨e, he, hx⟩ := List.mem_flatMap.1 hx
        obtain ⟨y, hy, rfl⟩ := List.mem_map.1 hx
        obtain ⟨k1, k2⟩ := hstep e he
        have := (ih _ (by omega) k1.1 k1.2).2 y hy
        rw [k2, ← this]
        have : ((y + 1 : Nat) : Int) = (y : Int) + 1 := by omega
        rw [this, Int.mul_add, Int.mul_one]
theorem lay_ways {p : Int → Nat} {m : Int} (hp0 : p dst = 1) (hp : ∀ v, 0 ≤ v → v < g.n → v ≠ dst → p v = sumL p ((g.ls.filter fun l => decide (l.a = v)).map (·.b))) (hm : ∀ l ∈ g.ls, l.m = m) (hm1 : 1 ≤ m) {c : Nat} (hc : at0 d src = m * (c : Int)) :
    waysOf g [] src dst = (cap (p src), (c : Int), (c : Int), true) := by
  have hd := lay_dist h
  obtain ⟨b1, b2⟩ := lay_bks h hp0 hp hm hm1 _ src (Nat.le_refl _) h.s0.1.1 h.s0.1.2
  have hge := (h.nn src h.s0.1.1 h.s0.1.2).2.1
  have hdst := h.d0.1
  unfold waysOf
  rw [(lay_ref h).1, if_pos ⟨fun hh => by have := h.ld; rw [hh] at this; simp at this; omega, h.s0.1, hge⟩]
  obtain ⟨c1, c2, c3⟩ := cnt_bks h.ok hd _ src (Nat.le_refl _) h.s0.1 hge
  have hne := bks_ne h.ok hd _ src (Nat.le_refl _) h.s0.1 hge
  have hall : ∀ x ∈ bks g [] d src, x = c := fun x hx => by
    have := b2 x hx
    rw [hc] at this
    have h2 : (x : Int) = c := Int.eq_of_mul_eq_mul_left (by omega) this
    omega
  rw [c1, c2, c3, b1]
  have e1 : hi (bks g [] d src) = c := hall _ (hi_in _ hne)
  obtain ⟨x, hx⟩ := List.exists_mem_of_ne_nil _ hne
  have hlt := bks_le h.ok (down := []) _ src (Nat.le_refl _) h.s0.1 hge x hx
  have hbe := below_le g d (at0 d src)
  have hxc := hall x hx
  have e2 : lo g.n.toNat (bks g [] d src) = c := by
    have h1 := lo_mem g.n.toNat _ hx
    rcases lo_in g.n.toNat (bks g [] d src) with hh | hh
    · omega
    · exact hall _ hh
  rw [e1, e2]
end
end Go.Proofs

set_option linter.unusedSimpArgs false
set_option linter.unusedVariables false
namespace Go.Proofs
open Go.Ab

def gAt (w h y x : Nat) : List Lk := (if x + 1 < w then [⟨((y * w + x : Nat) : Int), ((y * w + x + 1 : Nat) : Int), 2, 0⟩] else []) ++ (if y + 1 < h then [⟨((y * w + x : Nat) : Int), ((y * w + x + w : Nat) : Int), 2, 0⟩] else [])
def gRow (w h y k : Nat) : List Lk := (List.range k).flatMap (gAt w h y)
def gridL (w h k : Nat) : List Lk := (List.range k).flatMap fun y => gRow w h y w
theorem gRow_succ (w h y k : Nat) : gRow w h y (k + 1) = gRow w h y k ++ gAt w h y k := by
  unfold gRow; rw [List.range_succ, List.flatMap_append]; simp
theorem gridL_succ (w h k : Nat) : gridL w h (k + 1) = gridL w h k ++ gRow w h k w := by
  unfold gridL; rw [List.range_succ, List.flatMap_append]; simp
theorem gAt_len (w h y x : Nat) : (gAt w h y x).length ≤ 2 := by
  unfold gAt
  rw [List.length_append]
  split <;> split <;> simp
theorem gRow_len (w h y : Nat) : ∀ k, (gRow w h y k).length ≤ 2 * k
  | 0 => by simp [gRow]
  | k + 1 => by rw [gRow_succ, List.length_append]; have := gRow_len w h y k; have := gAt_len w h y k; omega
theorem gridL_len (w h : Nat) : ∀ k, (gridL w h k).length ≤ 2 * w * k
  | 0 => by simp [gridL]
  | k + 1 => by rw [gridL_succ, List.length_append]; have := gridL_len w h k; have := gRow_len w h k w; rw [Nat.mul_succ]; omega
def grid (w h : Nat) : Gr := ⟨((w * h : Nat) : Int), gridL w h h⟩
def gridA (w h : Nat) : List Int := (List.range (w * h)).map fun i => ((2 * (i % w + i / w) : Nat) : Int)
def gridD (w h : Nat) : List Int := (List.range (w * h)).map fun i => 2 * ((w : Int) + h - 2) - ((2 * (i % w + i / w) : Nat) : Int)
def triRow (prev : Nat → Nat) : Nat → Nat
  | 0 => 1
  | j + 1 => prev (j + 1) + triRow prev j
def tri : Nat → Nat → Nat
  | 0 => fun _ => 1
  | i + 1 => triRow (tri i)
theorem tri_zero (j : Nat) : tri 0 j = 1 := rfl
theorem tri_left (i : Nat) : tri i 0 = 1 := by cases i <;> rfl
theorem tri_step (i j : Nat) : tri (i + 1) (j + 1) = tri i (j + 1) + tri (i + 1) j := rfl
def gridP (w h : Nat) (v : Int) : Nat := tri (h - 1 - v.toNat / w) (w - 1 - v.toNat % w)

/-- All that is asked of a grid, by looking. -/
def layB (g : Gr) (src dst : Nat) (a d : List Int) : Bool :=
  decide (g.check.2 = 0) && decide (a.length = g.n.toNat) && decide (d.length = g.n.toNat) && decide (src < g.n.toNat) && decide (dst < g.n.toNat) && decide (at0 a src = 0) && decide (at0 d dst = 0) &&
  ((List.range g.n.toNat).all fun v => decide (0 ≤ at0 a (v : Int)) && decide (0 ≤ at0 d (v : Int)) && decide (at0 a (v : Int) + at0 d (v : Int) = at0 a (dst : Int)) && (decide (v = dst) || g.ls.any fun l => decide (l.a = (v : Int))) && (decide (v = src) || g.ls.any fun l => decide (l.b = (v : Int)))) &&
  (g.ls.all fun l => decide (at0 d l.a = at0 d l.b + l.m) && decide (at0 a l.b = at0 a l.a + l.m))
theorem lay_of_b {g : Gr} {src dst : Nat} {a d : List Int} (hb : layB g src dst a d = true) : Lay g src dst a d := by
  unfold layB at hb
  simp only [Bool.and_eq_true, decide_eq_true_eq, List.all_eq_true, Bool.or_eq_true, List.any_eq_true, List.mem_range] at hb
  obtain ⟨⟨⟨⟨⟨⟨⟨⟨h1, h2⟩, h3⟩, h4⟩, h5⟩, h6⟩, h7⟩, h8⟩, h9⟩ := hb
  have key : ∀ v : Int, 0 ≤ v → v < g.n → ∃ k : Nat, v = k ∧ k < g.n.toNat := fun v v0 v1 => ⟨v.toNat, by omega, by omega⟩
  refine ⟨g.check_ok.1 h1, h2, h3, ⟨⟨by omega, by omega⟩, h6⟩, ⟨⟨by omega, by omega⟩, h7⟩, fun v v0 v1 => ?_, fun l hl => h9 l hl, fun v v0 v1 hv => ?_, fun v v0 v1 hv => ?_⟩
  · obtain ⟨k, rfl, hk⟩ := key v v0 v1
    obtain ⟨⟨⟨⟨q1, q2⟩, q3⟩, _⟩, _⟩ := h8 k hk
    exact ⟨q1, q2, q3⟩
  · obtain ⟨k, rfl, hk⟩ := key v v0 v1
    obtain ⟨⟨_, q4⟩, _⟩ := h8 k hk
    rcases q4 with q4 | q4
    · exact absurd (by rw [q4]) hv
    · exact q4
  · obtain ⟨k, rfl, hk⟩ := key v v0 v1
    obtain ⟨_, q5⟩ := h8 k hk
    rcases q5 with q5 | q5
    · exact absurd (by rw [q5]) hv
    · exact q5
def gridB (w h : Nat) : Bool :=
  layB (grid w h) 0 (w * h - 1) (gridA w h) (gridD w h) && decide (gridP w h ((w * h - 1 : Nat) : Int) = 1) &&
  ((List.range (w * h)).all fun v => decide (v = w * h - 1) || decide (gridP w h (v : Int) = sumL (gridP w h) (((grid w h).ls.filter fun l => decide (l.a = (v : Int))).map (·.b)))) &&
  ((grid w h).ls.all fun l => decide (l.m = 2)) && decide (at0 (gridD w h) 0 = 2 * ((w + h - 2 : Nat) : Int)) && decide (gridP w h 0 = tri (h - 1) (w - 1)) && decide (tri (h - 1) (w - 1) ≤ 252)
theorem grid_all : ((List.range 6).all fun w => (List.range 6).all fun h => gridB (w + 1) (h + 1)) = true := by decide +kernel
theorem tri_all : ((List.range 6).all fun i => (List.range 6).all fun j => decide (tri i j ≤ 252)) = true := by decide +kernel
theorem tri_le {i j : Nat} (hi : i < 6) (hj : j < 6) : tri i j ≤ 252 := by
  have := tri_all
  simp only [List.all_eq_true, List.mem_range, decide_eq_true_eq] at this
  exact this i hi j hj
theorem grid_ok {w h : Nat} (hw : 1 ≤ w) (hw' : w ≤ 6) (hh : 1 ≤ h) (hh' : h ≤ 6) : waysOf (grid w h) [] 0 ((w * h - 1 : Nat) : Int) = (((tri (h - 1) (w - 1) : Nat) : Int), ((w + h - 2 : Nat) : Int), ((w + h - 2 : Nat) : Int), true) ∧ (usesOf (grid w h) [] 0 ((w * h - 1 : Nat) : Int)).length = (grid w h).ls.length := by
  have hall := grid_all
  simp only [List.all_eq_true, List.mem_range] at hall
  have hb := hall (w - 1) (by omega) (h - 1) (by omega)
  rw [show w - 1 + 1 = w by omega, show h - 1 + 1 = h by omega] at hb
  unfold gridB at hb
  simp only [Bool.and_eq_true, decide_eq_true_eq, List.all_eq_true, Bool.or_eq_true, List.mem_range] at hb
  obtain ⟨⟨⟨⟨⟨⟨b1, b2⟩, b3⟩, b4⟩, b5⟩, b6⟩, b7⟩ := hb
  have hl := lay_of_b b1
  have hl : Lay (grid w h) 0 ((w * h - 1 : Nat) : Int) (gridA w h) (gridD w h) := hl
  have hways := lay_ways hl (p := gridP w h) (m := 2) b2 (fun v v0 v1 hv => by
    obtain ⟨k, rfl⟩ : ∃ k : Nat, v = k := ⟨v.toNat, by omega⟩
    have hk : k < w * h := by have h2 : (k : Int) < ((w * h : Nat) : Int) := v1; omega
    rcases b3 k hk with h3 | h3
    · exact absurd (by rw [h3]) hv
    · exact h3) b4 (by omega) (c := w + h - 2) b5
  refine ⟨?_, lay_uses hl⟩
  rw [hways, b6]
  have : cap (tri (h - 1) (w - 1)) = ((tri (h - 1) (w - 1) : Nat) : Int) := by
    unfold cap
    rw [if_pos (by omega)]
  rw [this]
end Go.Proofs

set_option linter.unusedSimpArgs false
set_option linter.unusedVariables false
namespace Go.Proofs
open Go.Ab

theorem wrap_mul_small {a b : Nat} (ha : a ≤ 6) (hb : b ≤ 6) : IntKind.i64.wrap ((a : Int) * (b : Int)) = ((a * b : Nat) : Int) ∧ a * b ≤ 36 := by
  have h : a * b ≤ 36 := Nat.mul_le_mul ha hb
  refine ⟨?_, h⟩
  rw [← Int.natCast_mul]
  exact wrap_id (by omega) (by omega)
theorem wrap_add_nat {a b : Nat} (h : a + b ≤ 1000) : IntKind.i64.wrap ((a : Int) + (b : Int)) = ((a + b : Nat) : Int) := by
  rw [wrap_id (by omega) (by omega)]; omega
theorem wrap_add_one {a : Nat} (h : a ≤ 1000) : IntKind.i64.wrap ((a : Int) + 1) = ((a + 1 : Nat) : Int) := by
  rw [wrap_id (by omega) (by omega)]; omega

def z36 : List Int := List.replicate 36 0
def icells (t : List Int) : List AVal := t.map fun n => .sc (.int .i64 n)
theorem icells_len (t : List Int) : (icells t).length = t.length := by simp [icells]
theorem icells_get {t : List Int} {o : Nat} {n : Int} (h : t[o]? = some n) : (icells t)[o]? = some (.sc (.int .i64 n)) := by simp [icells, h]
theorem icells_set {t : List Int} {o : Nat} (n : Int) (h : o < t.length) : (icells t).take o ++ [.sc (.int .i64 n)] ++ (icells t).drop (o + 1) = icells (t.set o n) := by
  unfold icells
  rw [List.map_set, List.set_eq_take_append_cons_drop, if_pos (by simpa using h)]
  simp
theorem gridWalk_ok (w h : Int) : PGood Try.prog 6 [.i w, .i h] (.b true) := by
  refine pgood_of_out 2 (good_of_wp isF6 (Nat.le_refl _) ?_)
  unfold ac6
  simp only [go_sem, simprocAttr]
  refine good_imm alive_ok rfl ?_
  simp only [go_sem, simprocAttr]
  by_cases h1 : w < 1
  · simp only [go_sem, simprocAttr, h1]
    exact out_sc
  simp only [go_sem, simprocAttr, h1]
  by_cases h2 : 6 < w
  · simp only [go_sem, simprocAttr, h2]
    exact out_sc
  simp only [go_sem, simprocAttr, h2]
  by_cases h3 : h < 1
  · simp only [go_sem, simprocAttr, h3]
    exact out_sc
  simp only [go_sem, simprocAttr, h3]
  by_cases h4 : 6 < h
  · simp only [go_sem, simprocAttr, h4]
    exact out_sc
  obtain ⟨w, rfl⟩ : ∃ m : Nat, w = m := ⟨w.toNat, by omega⟩
  obtain ⟨h, rfl⟩ : ∃ m : Nat, h = m := ⟨h.toNat, by omega⟩
  have hw : 1 ≤ w := by omega
  have hw' : w ≤ 6 := by omega
  have hh : 1 ≤ h := by omega
  have hh' : h ≤ 6 := by omega
  obtain ⟨w1, hwh⟩ := wrap_mul_small hw' hh'
  obtain ⟨gw, gu⟩ := grid_ok hw hw' hh hh'
  simp only [go_sem, simprocAttr, h4, w1]
  intro gid hgid
  simp only [go_sem, simprocAttr]
  let I : Nat → Fr → Store → Prop := fun m fr τ => ∃ (y : Nat) (v : AVal), y ≤ h ∧ m = h - y ∧ fr = [(0, .i w), (1, .i h), (6, .ptr gid 0 0 0), (7, .i y)] ∧ τ.get gid = some (.row 0 false 2 [[.sc (.int .i64 ((w * h : Nat) : Int)), v]]) ∧ Acc τ 4 v (lrows (gridL w h y)) [gid]
  refine loop_rule I h ⟨0, .nils, by omega, rfl, rfl, by simp, acc_nils (alive_cons (Store.get_set_self _ _ _) alive_nil)⟩ ?_
  rintro m fr τ ⟨y, v, hy, rfl, rfl, g1, acc⟩
  simp only [go_sem, simprocAttr]
  refine .intro (fun hyl => ?_) (fun hyl => ?_)
  · have hyl' : y < h := by omega
    have hlen := gridL_len w h y
    have hlen2 : 2 * w * y ≤ 72 := Nat.le_trans (Nat.mul_le_mul (show 2 * w ≤ 12 by omega) (show y ≤ 6 by omega)) (by omega)
    obtain ⟨w2, hyw⟩ := wrap_mul_small (a := y) (b := w) (by omega) hw'
    have w3 := wrap_add_one (a := y) (by omega)
    simp only [go_sem, simprocAttr]
    let J : Nat → Fr → Store → Prop := fun m fr τ => ∃ (x : Nat) (v : AVal), x ≤ w ∧ m = w - x ∧ fr = [(0, .i w), (1, .i h), (6, .ptr gid 0 0 0), (7, .i y), (8, .i x)] ∧ τ.get gid = some (.row 0 false 2 [[.sc (.int .i64 ((w * h : Nat) : Int)), v]]) ∧
      Acc τ 4 v (lrows (gridL w h y ++ gRow w h y x)) [gid]
    refine loop_rule J w ⟨0, v, by omega, rfl, rfl, g1, by simpa [gRow] using acc⟩ ?_
    clear g1 acc
    rintro m fr τ2 ⟨x, v, hx, rfl, rfl, g1, acc⟩
    simp only [go_sem, simprocAttr]
    refine .intro (fun hxl => ?_) (fun hxl => ?_)
    · have hxl' : x < w := by omega
      have w4 := wrap_add_one (a := x) (by omega)
      have w5 := wrap_add_nat (a := y * w) (b := x) (by omega)
      have w6 := wrap_add_one (a := y * w + x) (by omega)
      have w7 := wrap_add_nat (a := y * w + x) (b := w) (by omega)
      have hlen3 := gRow_len w h y x
      have hsucc := gRow_succ w h y x
      simp only [go_sem, simprocAttr, w4]
      by_cases hx1 : ((x + 1 : Nat) : Int) < w
      · have cx : x + 1 < w := by omega
        simp only [go_sem, simprocAttr, hx1, rowAt_get g1, w2, w5, w6]
        intro tid htid
        have acc2 := acc.fresh htid (.row 0 false 4 [[.sc (.int .i64 ((y * w + x : Nat) : Int)), .sc (.int .i64 ((y * w + x + 1 : Nat) : Int)), .sc (.int .i64 2), .sc (.int .i64 0)]])
        simp only [go_sem, simprocAttr]
        refine acc_append acc2 (by simp only [lrows_len, List.length_append, List.length_cons, List.length_nil]; omega) (by simp only [lrows_len, List.length_append, List.length_cons, List.length_nil]; omega) fun v' σ' c1 c2 => ?_
        have g2 : σ'.get gid = some (.row 0 false 2 [[.sc (.int .i64 ((w * h : Nat) : Int)), v]]) := by rw [c2 gid (by simp), get_fresh htid (by rw [g1]; rfl), g1]
        have hkn := c1.known
        simp only [go_sem, simprocAttr, rowAt_get g2, hkn, w3]
        have acc3 := (c1.other (id := gid) (by simp) (.row 0 false 2 [[.sc (.int .i64 ((w * h : Nat) : Int)), v']])).less (o2 := [gid]) (by simp)
        have g4 : (σ'.set gid (.row 0 false 2 [[.sc (.int .i64 ((w * h : Nat) : Int)), v']])).get gid = some (.row 0 false 2 [[.sc (.int .i64 ((w * h : Nat) : Int)), v']]) := by simp
        generalize σ'.set gid (.row 0 false 2 [[.sc (.int .i64 ((w * h : Nat) : Int)), v']]) = σ1 at *
        by_cases hy1 : ((y + 1 : Nat) : Int) < h
        · have cy : y + 1 < h := by omega
          simp only [go_sem, simprocAttr, hy1, rowAt_get g4, w2, w5, w7]
          intro tid2 htid2
          have accb := (acc3).fresh htid2 (.row 0 false 4 [[.sc (.int .i64 ((y * w + x : Nat) : Int)), .sc (.int .i64 ((y * w + x + w : Nat) : Int)), .sc (.int .i64 2), .sc (.int .i64 0)]])
          have g0' := g4
          simp only [go_sem, simprocAttr]
          refine acc_append accb (by simp only [lrows_len, List.length_append, List.length_cons, List.length_nil]; omega) (by simp only [lrows_len, List.length_append, List.length_cons, List.length_nil]; omega) fun v2 σ2 c3 c4 => ?_
          have g3 : σ2.get gid = some (.row 0 false 2 [[.sc (.int .i64 ((w * h : Nat) : Int)), v']]) := by rw [c4 gid (by simp), get_fresh htid2 (by rw [g0']; rfl), g0']
          have hkn2 := c3.known
          simp only [go_sem, simprocAttr, rowAt_get g3, hkn2, w4]
          refine back_of (w - (x + 1)) (by omega) ⟨x + 1, v2, hxl', rfl, rfl, by simp, ?_⟩
          have c5 := (c3.other (id := gid) (by simp) (.row 0 false 2 [[.sc (.int .i64 ((w * h : Nat) : Int)), v2]])).less (o2 := [gid]) (by simp)
          have er : lrows (gridL w h y ++ gRow w h y (x + 1)) = lrows (gridL w h y ++ gRow w h y x) ++ [[.sc (.int .i64 ((y * w + x : Nat) : Int)), .sc (.int .i64 ((y * w + x + 1 : Nat) : Int)), .sc (.int .i64 2), .sc (.int .i64 0)]] ++ [[.sc (.int .i64 ((y * w + x : Nat) : Int)), .sc (.int .i64 ((y * w + x + w : Nat) : Int)), .sc (.int .i64 2), .sc (.int .i64 0)]] := by
            rw [hsucc]; unfold gAt; rw [if_pos cx, if_pos cy]; simp [lrows, Lk.row]
          rw [er]; exact c5
        · have cy : ¬ y + 1 < h := by omega
          simp only [go_sem, simprocAttr, hy1, w4]
          refine back_of (w - (x + 1)) (by omega) ⟨x + 1, _, hxl', rfl, rfl, g4, ?_⟩
          have er : lrows (gridL w h y ++ gRow w h y (x + 1)) = lrows (gridL w h y ++ gRow w h y x) ++ [[.sc (.int .i64 ((y * w + x : Nat) : Int)), .sc (.int .i64 ((y * w + x + 1 : Nat) : Int)), .sc (.int .i64 2), .sc (.int .i64 0)]] := by
            rw [hsucc]; unfold gAt; rw [if_pos cx, if_neg cy]; simp [lrows, Lk.row]
          rw [er]; exact (acc3).less (by simp)
      · have cx : ¬ x + 1 < w := by omega
        simp only [go_sem, simprocAttr, hx1, w3]
        by_cases hy1 : ((y + 1 : Nat) : Int) < h
        · have cy : y + 1 < h := by omega
          simp only [go_sem, simprocAttr, hy1, rowAt_get g1, w2, w5, w7]
          intro tid2 htid2
          have accb := (acc).fresh htid2 (.row 0 false 4 [[.sc (.int .i64 ((y * w + x : Nat) : Int)), .sc (.int .i64 ((y * w + x + w : Nat) : Int)), .sc (.int .i64 2), .sc (.int .i64 0)]])
          have g0' := g1
          simp only [go_sem, simprocAttr]
          refine acc_append accb (by simp only [lrows_len, List.length_append, List.length_cons, List.length_nil]; omega) (by simp only [lrows_len, List.length_append, List.length_cons, List.length_nil]; omega) fun v2 σ2 c3 c4 => ?_
          have g3 : σ2.get gid = some (.row 0 false 2 [[.sc (.int .i64 ((w * h : Nat) : Int)), v]]) := by rw [c4 gid (by simp), get_fresh htid2 (by rw [g0']; rfl), g0']
          have hkn2 := c3.known
          simp only [go_sem, simprocAttr, rowAt_get g3, hkn2, w4]
          refine back_of (w - (x + 1)) (by omega) ⟨x + 1, v2, hxl', rfl, rfl, by simp, ?_⟩
          have c5 := (c3.other (id := gid) (by simp) (.row 0 false 2 [[.sc (.int .i64 ((w * h : Nat) : Int)), v2]])).less (o2 := [gid]) (by simp)
          have er : lrows (gridL w h y ++ gRow w h y (x + 1)) = lrows (gridL w h y ++ gRow w h y x) ++ [[.sc (.int .i64 ((y * w + x : Nat) : Int)), .sc (.int .i64 ((y * w + x + w : Nat) : Int)), .sc (.int .i64 2), .sc (.int .i64 0)]] := by
            rw [hsucc]; unfold gAt; rw [if_neg cx, if_pos cy]; simp [lrows, Lk.row]
          rw [er]; exact c5
        · have cy : ¬ y + 1 < h := by omega
          simp only [go_sem, simprocAttr, hy1, w4]
          refine back_of (w - (x + 1)) (by omega) ⟨x + 1, _, hxl', rfl, rfl, g1, ?_⟩
          have er : lrows (gridL w h y ++ gRow w h y (x + 1)) = lrows (gridL w h y ++ gRow w h y x) := by
            rw [hsucc]; unfold gAt; rw [if_neg cx, if_neg cy]; simp [lrows, Lk.row]
          rw [er]; exact (acc).less (by simp)
    · have ex : x = w := by omega
      subst ex
      simp only [go_sem, simprocAttr, w3]
      exact back_of (h - (y + 1)) (by omega) ⟨y + 1, v, hyl', rfl, rfl, g1, by rw [gridL_succ]; exact acc⟩
  · have ey : y = h := by omega
    subst ey
    simp only [go_sem, simprocAttr]
    intro nid hnid
    have a1 : gid ≠ nid := fun e => by rw [e, hnid] at g1; cases g1
    have accn := (acc.fresh hnid (.row 0 false 36 [icells z36]))
    have g2 : (τ.set nid (.row 0 false 36 [icells z36])).get gid = some (.row 0 false 2 [[.sc (.int .i64 ((w * y : Nat) : Int)), v]]) := by rw [Store.get_set_ne _ _ a1, g1]
    have g3 : (τ.set nid (.row 0 false 36 [icells z36])).get nid = some (.row 0 false 36 [icells z36]) := by simp
    have hz : [AVal.sc (.int .i64 0), .sc (.int .i64 0), .sc (.int .i64 0), .sc (.int .i64 0), .sc (.int .i64 0), .sc (.int .i64 0), .sc (.int .i64 0), .sc (.int .i64 0), .sc (.int .i64 0), .sc (.int .i64 0), .sc (.int .i64 0), .sc (.int .i64 0), .sc (.int .i64 0), .sc (.int .i64 0), .sc (.int .i64 0), .sc (.int .i64 0), .sc (.int .i64 0), .sc (.int .i64 0), .sc (.int .i64 0), .sc (.int .i64 0), .sc (.int .i64 0), .sc (.int .i64 0), .sc (.int .i64 0), .sc (.int .i64 0), .sc (.int .i64 0), .sc (.int .i64 0), .sc (.int .i64 0), .sc (.int .i64 0), .sc (.int .i64 0), .sc (.int .i64 0), .sc (.int .i64 0), .sc (.int .i64 0), .sc (.int .i64 0), .sc (.int .i64 0), .sc (.int .i64 0), .sc (.int .i64 0)] = icells z36 := rfl
    rw [hz]
    generalize τ.set nid (.row 0 false 36 [icells z36]) = τ0 at *
    clear g1 acc hnid hz
    simp only [go_sem, simprocAttr]
    let K : Nat → Fr → Store → Prop := fun m fr τ2 => ∃ (i : Nat) (t : List Int), i ≤ y ∧ m = y - i ∧ fr = [(0, .i w), (1, .i y), (6, .ptr gid 0 0 0), (9, .ptr nid 0 0 0), (10, .i i)] ∧ τ2.get gid = some (.row 0 false 2 [[.sc (.int .i64 ((w * y : Nat) : Int)), v]]) ∧ τ2.get nid = some (.row 0 false 36 [icells t]) ∧ t.length = 36 ∧
      Acc τ2 4 v (lrows (gridL w y y)) [gid, nid] ∧ (∀ i' j', i' < i → j' < w → t[i' * 6 + j']? = some ((tri i' j' : Nat) : Int))
    refine loop_rule K y ⟨0, z36, by omega, rfl, rfl, g2, g3, rfl, accn.less (by simp), fun i' j' h => by omega⟩ ?_
    clear g2 g3 accn
    rintro m fr τ2 ⟨i, t, hi, rfl, rfl, g1, g2, htl, acc, hT⟩
    simp only [go_sem, simprocAttr]
    refine .intro (fun hil => ?_) (fun hil => ?_)
    · have hil' : i < y := by omega
      simp only [go_sem, simprocAttr]
      let M : Nat → Fr → Store → Prop := fun m fr τ2 => ∃ (j : Nat) (t : List Int), j ≤ w ∧ m = w - j ∧ fr = [(0, .i w), (1, .i y), (6, .ptr gid 0 0 0), (9, .ptr nid 0 0 0), (10, .i i), (11, .i j)] ∧ τ2.get gid = some (.row 0 false 2 [[.sc (.int .i64 ((w * y : Nat) : Int)), v]]) ∧ τ2.get nid = some (.row 0 false 36 [icells t]) ∧ t.length = 36 ∧
        Acc τ2 4 v (lrows (gridL w y y)) [gid, nid] ∧ (∀ i' j', (i' < i ∧ j' < w ∨ i' = i ∧ j' < j) → t[i' * 6 + j']? = some ((tri i' j' : Nat) : Int))
      refine loop_rule M w ⟨0, t, by omega, rfl, rfl, g1, g2, htl, acc, fun i' j' h => hT i' j' (by omega) (by omega)⟩ ?_
      clear g1 g2 htl acc hT
      rintro m fr τ3 ⟨j, t, hj, rfl, rfl, g1, g2, htl, acc, hT⟩
      simp only [go_sem, simprocAttr]
      refine .intro (fun hjl => ?_) (fun hjl => ?_)
      · have hjl' : j < w := by omega
        have i0 : (0 : Int) ≤ i := by omega
        have i6 : (i : Int) < 6 := by omega
        have j0 : (0 : Int) ≤ j := by omega
        have j6 : (j : Int) < 6 := by omega
        have w4 := wrap_add_one (a := j) (by omega)
        have hic := icells_len t
        have hoff : i * 6 + j + 1 ≤ 36 := by omega
        -- what is known, with one number more
        have fin : ∀ (n : Int), n = ((tri i j : Nat) : Int) → M (w - (j + 1)) [(0, .i w), (1, .i y), (6, .ptr gid 0 0 0), (9, .ptr nid 0 0 0), (10, .i i), (11, .i ((j + 1 : Nat) : Int))] (τ3.set nid (.row 0 false 36 [icells (t.set (i * 6 + j) n)])) := fun n hn => by
          have hd := acc.1
          refine ⟨j + 1, _, hjl', rfl, rfl, by rw [Store.get_set_ne _ _ a1, g1], by rw [Store.get_set_self], by simpa using htl, acc.other (by simp) _, fun i' j' h => ?_⟩
          by_cases e : i' = i ∧ j' = j
          · obtain ⟨rfl, rfl⟩ := e
            rw [List.getElem?_set_self (by omega), hn]
          · have hne : i * 6 + j ≠ i' * 6 + j' := by omega
            rw [List.getElem?_set_ne hne]
            exact hT i' j' (by omega)
        simp only [go_sem, simprocAttr]
        by_cases hj0 : (j : Int) = 0
        · have e0 : j = 0 := by omega
          have h35 : i * 6 ≤ 35 := by omega
          simp only [go_sem, simprocAttr, hj0, i0, i6, j0, j6, rowAt_get g2, hic, htl, h35, icells_set 1 (show i * 6 < t.length by omega)]
          have h1 := fin 1 (by rw [e0, tri_left]; rfl)
          rw [e0] at h1 ⊢
          exact back_of (w - (0 + 1)) (by omega) h1
        · by_cases hi0 : (i : Int) = 0
          · have e0 : i = 0 := by omega
            have h35 : j * 1 ≤ 35 := by omega
            simp only [go_sem, simprocAttr, hj0, hi0, i0, i6, j0, j6, rowAt_get g2, hic, htl, h35, w4, icells_set 1 (show j * 1 < t.length by omega)]
            have h1 := fin 1 (by rw [e0, tri_zero]; rfl)
            have e1 : 0 * 6 + j = j * 1 := by omega
            rw [e0, e1] at h1
            exact back_of (w - (j + 1)) (by omega) h1
          · obtain ⟨a, rfl⟩ : ∃ a, i = a + 1 := ⟨i - 1, by omega⟩
            obtain ⟨b, rfl⟩ : ∃ b, j = b + 1 := ⟨j - 1, by omega⟩
            have wa : IntKind.i64.wrap (((a + 1 : Nat) : Int) - 1) = (a : Int) := by rw [wrap_id (by omega) (by omega)]; omega
            have wb : IntKind.i64.wrap (((b + 1 : Nat) : Int) - 1) = (b : Int) := by rw [wrap_id (by omega) (by omega)]; omega
            have xa := icells_get (hT a (b + 1) (by omega))
            have xb := icells_get (hT (a + 1) b (by omega))
            have ta := tri_le (i := a) (j := b + 1) (by omega) (by omega)
            have tb := tri_le (i := a + 1) (j := b) (by omega) (by omega)
            have wt := wrap_add_nat (a := tri a (b + 1)) (b := tri (a + 1) b) (by omega)
            have a0 : (0 : Int) ≤ a := by omega
            have a6 : (a : Int) < 6 := by omega
            have b0 : (0 : Int) ≤ b := by omega
            have b6 : (b : Int) < 6 := by omega
            simp only [go_sem, simprocAttr, hj0, hi0]
            unfold op6_112
            have h35 : (a + 1) * 6 + (b + 1) ≤ 35 := by omega
            simp only [go_sem, simprocAttr, Nat.mul_one, wa, wb, a0, a6, b0, b6, i0, i6, j0, j6, rowAt_get g2, hic, htl, xa, xb, wt, h35, w4, icells_set _ (show (a + 1) * 6 + (b + 1) < t.length by omega)]
            exact back_of (w - (b + 1 + 1)) (by omega) (fin _ (by rw [tri_step]))
      · have ej : j = w := by omega
        subst ej
        have w4 := wrap_add_one (a := i) (by omega)
        simp only [go_sem, simprocAttr, w4]
        exact back_of (y - (i + 1)) (by omega) ⟨i + 1, t, hil', rfl, rfl, g1, g2, htl, acc, fun i' j' h1 h2 => hT i' j' (by omega)⟩
    · have ei : i = y := by omega
      subst ei
      obtain ⟨o1, o2⟩ := acc_fz acc (links_sc (gridL w i i))
      have hgv : (grid w i).val = .agg [.i ((w * i : Nat) : Int), .lst (lrows (gridL w i i))] := rfl
      have hu' : (dusesOf (grid w i) [] 0 ((w * i - 1 : Nat) : Int)).length = (gridL w i i).length := by rw [duses_eq]; exact gu
      have hwi : 1 ≤ w * i := Nat.mul_le_mul hw hh
      have w2 : IntKind.i64.wrap (((w * i : Nat) : Int) - 1) = ((w * i - 1 : Nat) : Int) := by rw [wrap_id (by omega) (by omega)]; omega
      have w3 : IntKind.i64.wrap ((i : Int) - 1) = ((i - 1 : Nat) : Int) := by rw [wrap_id (by omega) (by omega)]; omega
      have w4 : IntKind.i64.wrap ((w : Int) - 1) = ((w - 1 : Nat) : Int) := by rw [wrap_id (by omega) (by omega)]; omega
      have w5 := wrap_add_nat (a := w) (b := i) (by omega)
      have w6 : IntKind.i64.wrap (((w + i : Nat) : Int) - 2) = ((w + i - 2 : Nat) : Int) := by rw [wrap_id (by omega) (by omega)]; omega
      have xT := icells_get (hT (i - 1) (w - 1) (by omega) (by omega))
      have i0 : (0 : Int) ≤ ((i - 1 : Nat) : Int) := by omega
      have i6 : ((i - 1 : Nat) : Int) < 6 := by omega
      have j0 : (0 : Int) ≤ ((w - 1 : Nat) : Int) := by omega
      have j6 : ((w - 1 : Nat) : Int) < 6 := by omega
      simp only [go_sem, simprocAttr, rowAt_get g1, w1, w2]
      refine Good.freeze (fun _ => true) (good_out 3 (outL4 (out_agg2 (c := .i ((w * i : Nat) : Int)) (d := .lst (lrows (gridL w i i))) out_sc (acc_out acc (links_sc _))) out_nils out_sc out_sc) (by rw [← hgv]; exact hops_ok (grid w i) [] 0 ((w * i - 1 : Nat) : Int)) rfl ?_)
      rw [(dag_eq _ _ _ _).2, gw]
      have r1 := rowAt_freeze (p := fun _ => true) (rowAt_get g1)
      have r2 := rowAt_freeze (p := fun _ => true) (rowAt_get g2)
      simp only [go_sem, simprocAttr]
      unfold op6_139
      simp only [go_sem, simprocAttr, r1, w1, w2]
      refine goodD_out 3 (outL4 (out_agg2 (c := .i ((w * i : Nat) : Int)) (d := .lst (lrows (gridL w i i))) out_sc (o1 0)) out_nils out_sc out_sc) (by rw [← hgv]; exact count_ok (grid w i) [] 0 ((w * i - 1 : Nat) : Int)) rfl ?_
      rw [(dag_eq _ _ _ _).1, gw]
      simp only [go_sem, simprocAttr, Nat.mul_one, r1, r2, w1, w2, w3, w4, w5, w6, i0, i6, j0, j6, xT]
      refine goodD_fz 3 (outL4 (out_agg2 (c := .i ((w * i : Nat) : Int)) (d := .lst (lrows (gridL w i i))) out_sc (o1 0)) out_nils out_sc out_sc) (by rw [← hgv]; exact duses_ok (grid w i) [] 0 ((w * i - 1 : Nat) : Int)) (fun id hid => o2 0 id (by simpa only [reachL, List.flatMap_cons, List.flatMap_nil, reach_agg, reach_sc, reach_nils, List.append_nil, List.nil_append] using hid)) ?_
      have hz : (lrows (gridL w i i)).length = (gridL w i i).length := lrows_len _
      rcases acc.2 with ⟨rfl, hr⟩ | ⟨id, ver, off, xs, rfl, _⟩
      · have h0 : (gridL w i i).length = 0 := by rw [← hz, hr]; rfl
        rw [h0] at hu'
        simp only [go_sem, simprocAttr, r1, hu']
        exact out_sc
      · simp only [go_sem, simprocAttr, r1, hu', hz]
        exact out_sc
end Go.Proofs
