/- A part of the proof: lemmas alone, no statement. -/
import Derived.Test.YtjaejliefojfjaaP4
import Derived.Test.YtjaejliefojfjaaP2
set_option linter.unusedVariables false
set_option linter.unusedSimpArgs false
set_option linter.unnecessarySimpa false
set_option linter.unusedSectionVars false
set_option linter.unusedVariables false
namespace Go.Proofs
/-! ### Distances -/
def Use (g : Gr) (down : List Bool) (k : Int) : Prop := 0 ≤ k ∧ k < 2 * (g.ls.length : Int) ∧ isUp down k = true
abbrev at0 (d : List Int) (v : Int) : Int := d.getD v.toNat 0
structure IsDist (g : Gr) (down : List Bool) (node : Int) (d : List Int) : Prop where
  len : d.length = g.n.toNat
  src : at0 d node = 0
  neg : ∀ v, 0 ≤ v → v < g.n → at0 d v = -1 ∨ 0 ≤ at0 d v
  closed : ∀ k, Use g down k → 0 ≤ at0 d (g.ends k).1 → 0 ≤ at0 d (g.ends k).2.1 ∧ at0 d (g.ends k).2.1 ≤ at0 d (g.ends k).1 + g.metric k
  reach : ∀ v, 0 ≤ v → v < g.n → 0 ≤ at0 d v → (v = node ∧ at0 d v = 0) ∨ ∃ k, Use g down k ∧ (g.ends k).2.1 = v ∧ 0 ≤ at0 d (g.ends k).1 ∧ at0 d v = at0 d (g.ends k).1 + g.metric k

theorem dist_le {g : Gr} (hg : g.Ok) {down : List Bool} {node : Int} {d d' : List Int} (h : IsDist g down node d) (h' : IsDist g down node d') :
    ∀ (N : Nat) (v : Int), 0 ≤ v → v < g.n → 0 ≤ at0 d' v → at0 d' v ≤ N → 0 ≤ at0 d v ∧ at0 d v ≤ at0 d' v := by
  intro N
  induction N using Nat.strongRecOn with
  | _ N ih =>
    intro v v0 v1 h0 hN
    rcases h'.reach v v0 v1 h0 with ⟨rfl, h2⟩ | ⟨k, hk, hb, ha, hd⟩
    · rw [h.src, h2]; exact ⟨Int.le_refl _, Int.le_refl _⟩
    · obtain ⟨e1, e2, e3, e4⟩ := g.ends_of hg hk.1 hk.2.1
      obtain ⟨m1, m2⟩ := g.metric_of hg hk.1 hk.2.1
      have := ih (at0 d' (g.ends k).1).toNat (by omega) (g.ends k).1 e1.1 e1.2 ha (by omega)
      have c := h.closed k hk this.1
      rw [hb] at c
      omega
theorem dist_uniq {g : Gr} (hg : g.Ok) {down : List Bool} {node : Int} {d d' : List Int} (h : IsDist g down node d) (h' : IsDist g down node d') : d = d' := by
  refine List.ext_getElem (h.len.trans h'.len.symm) fun i h1 h2 => ?_
  have hi : (i : Int) < g.n := by have := h.len; omega
  have e1 : at0 d i = d[i] := by simp [h1]
  have e2 : at0 d' i = d'[i] := by simp [h2]
  rw [← e1, ← e2]
  have a1 := h.neg i (by omega) hi
  have a2 := h'.neg i (by omega) hi
  by_cases p1 : 0 ≤ at0 d i
  · have b1 := dist_le hg h' h (at0 d i).toNat i (by omega) hi p1 (by omega)
    have b2 := dist_le hg h h' (at0 d' i).toNat i (by omega) hi b1.1 (by omega)
    omega
  · by_cases p2 : 0 ≤ at0 d' i
    · have b2 := dist_le hg h h' (at0 d' i).toNat i (by omega) hi p2 (by omega)
      omega
    · omega

theorem up_down (down : List Bool) (k : Int) (h : 0 ≤ k) : isUp down k = !isDown down (k / 2) := by
  unfold isUp isDown
  by_cases h1 : (down.length : Int) ≤ k / 2
  · have h2 : ¬ (k / 2 < down.length) := by omega
    simp [h1, h2]
  · have h2 : k / 2 < down.length := by omega
    have h3 : (0 : Int) ≤ k / 2 := by omega
    simp [h1, h2, h3]

/-! ### The reference's way -/
structure BfInv (g : Gr) (down : List Bool) (node : Int) (d : List Int) : Prop where
  len : d.length = g.n.toNat
  src : at0 d node = 0
  neg : ∀ v, 0 ≤ v → v < g.n → at0 d v = -1 ∨ 0 ≤ at0 d v
  small : Small d
  reach : ∀ v, 0 ≤ v → v < g.n → 0 ≤ at0 d v → (v = node ∧ at0 d v = 0) ∨ ∃ k, Use g down k ∧ (g.ends k).2.1 = v ∧ 0 ≤ at0 d (g.ends k).1 ∧ at0 d (g.ends k).1 + g.metric k ≤ at0 d v
theorem at0_set {d : List Int} {u v x : Int} (hu : 0 ≤ u) (hul : u.toNat < d.length) (hv : 0 ≤ v) : at0 (d.set u.toNat x) v = if v = u then x else at0 d v := by
  unfold at0
  simp only [List.getD_eq_getElem?_getD, List.getElem?_set]
  by_cases h : v = u
  · subst h; simp [hul]
  · have : ¬ u.toNat = v.toNat := by omega
    simp [h, this]
theorem bf_step {g : Gr} (hg : g.Ok) {down : List Bool} {node : Int} (hn : 0 ≤ node ∧ node < g.n) {d : List Int} (h : BfInv g down node d) {k : Nat} (hk : k < 2 * g.ls.length) (hc : bfCond g down d k) :
    BfInv g down node (d.set (g.ends k).2.1.toNat (at0 d (g.ends k).1 + g.metric k)) ∧ pot (d.set (g.ends k).2.1.toNat (at0 d (g.ends k).1 + g.metric k)) < pot d := by
  obtain ⟨e1, e2, e3, e4⟩ := g.ends_of hg (e := k) (by omega) (by omega)
  obtain ⟨m1, m2⟩ := g.metric_of hg (e := k) (by omega) (by omega)
  obtain ⟨c1, c2, c3⟩ := hc
  have hlen := h.len
  have hbl : (g.ends k).2.1.toNat < d.length := by omega
  have hal : (g.ends k).1.toNat < d.length := by omega
  have hma : at0 d (g.ends k).1 ∈ d := by
    have : at0 d (g.ends k).1 = d[(g.ends k).1.toNat] := by simp [hal]
    rw [this]; exact List.getElem_mem hal
  have hbe : at0 d (g.ends k).2.1 = d[(g.ends k).2.1.toNat] := by simp [hbl]
  have hsm := h.small _ hma
  have hneg := neg_le d
  have huse : Use g down k := ⟨by omega, by omega, by rw [up_down _ _ (by omega), c2]; rfl⟩
  generalize ha : (g.ends k).1 = a at *
  generalize hb : (g.ends k).2.1 = b at *
  have c1' : 0 ≤ at0 d a := c1
  have c3' : at0 d b < 0 ∨ at0 d a + g.metric k < at0 d b := c3
  have fall : ∀ v, 0 ≤ v → 0 ≤ at0 d v → 0 ≤ at0 (d.set b.toNat (at0 d a + g.metric k)) v ∧ at0 (d.set b.toNat (at0 d a + g.metric k)) v ≤ at0 d v := fun v v0 hv => by
    rw [at0_set e2.1 hbl v0]
    split
    · rename_i e; subst e; omega
    · exact ⟨hv, Int.le_refl _⟩
  refine ⟨⟨by simpa using h.len, ?_, fun v v0 v1 => ?_, ?_, fun v v0 v1 hv => ?_⟩, ?_⟩
  · rw [at0_set e2.1 hbl hn.1]
    split
    · rename_i e; subst e
      have := h.src; omega
    · exact h.src
  · rw [at0_set e2.1 hbl v0]
    split
    · exact .inr (by omega)
    · exact h.neg v v0 v1
  · exact h.small.step hbl hma c1' m1 m2 (by rw [← hbe]; exact c3')
  · by_cases hvb : v = b
    · refine .inr ⟨k, huse, hb.trans hvb.symm, ?_, ?_⟩
      · rw [ha]; exact (fall a e1.1 c1').1
      · rw [ha, at0_set e2.1 hbl v0, if_pos hvb, at0_set e2.1 hbl e1.1, if_neg (fun e => e4 e)]
        exact Int.le_refl _
    · have e5 : at0 (d.set b.toNat (at0 d a + g.metric k)) v = at0 d v := by rw [at0_set e2.1 hbl v0, if_neg hvb]
      rw [e5] at hv ⊢
      rcases h.reach v v0 v1 hv with h1 | ⟨j, j1, j2, j3, j4⟩
      · exact .inl h1
      · obtain ⟨f1, _⟩ := g.ends_of hg j1.1 j1.2.1
        have := fall _ f1.1 j3
        exact .inr ⟨j, j1, j2, this.1, by omega⟩
  · rw [pot_set hbl, ← hbe]
    have : ¬ (at0 d a + g.metric k < 0) := by omega
    rw [if_neg this]
    have hbig : at0 d a + g.metric k < big := by unfold big; have := hg.2.2.1; omega
    split <;> omega
theorem bf_sweep {g : Gr} (hg : g.Ok) {down : List Bool} {node : Int} (hn : 0 ≤ node ∧ node < g.n) {d : List Int} (h : BfInv g down node d) : ∀ (k : Nat), k ≤ 2 * g.ls.length →
    BfInv g down node ((List.range k).foldl (bfStep g down) (d, false)).1 ∧
    (((List.range k).foldl (bfStep g down) (d, false)).2 = true → pot ((List.range k).foldl (bfStep g down) (d, false)).1 < pot d) ∧
    (((List.range k).foldl (bfStep g down) (d, false)).2 = false → ((List.range k).foldl (bfStep g down) (d, false)).1 = d ∧ ∀ j, j < k → ¬ bfCond g down d j)
  | 0, _ => ⟨h, (fun e => by cases e), fun _ => ⟨rfl, fun j hj => by omega⟩⟩
  | k + 1, hk => by
    obtain ⟨i1, i2, i3⟩ := bf_sweep hg hn h k (by omega)
    have e : (List.range (k + 1)).foldl (bfStep g down) (d, false) = bfStep g down ((List.range k).foldl (bfStep g down) (d, false)) k := by rw [List.range_succ, List.foldl_append]; rfl
    rw [e]
    generalize (List.range k).foldl (bfStep g down) (d, false) = s at *
    unfold bfStep
    by_cases hc : bfCond g down s.1 k
    · rw [if_pos hc]
      obtain ⟨j1, j2⟩ := bf_step hg hn i1 (by omega) hc
      refine ⟨j1, fun _ => ?_, (fun h => by cases h)⟩
      show pot (s.1.set (g.ends k).2.1.toNat (at0 s.1 (g.ends k).1 + g.metric k)) < pot d
      cases hs : s.2 with
      | true => have := i2 hs; omega
      | false => rw [(i3 hs).1] at j2 ⊢; exact j2
    · rw [if_neg hc]
      refine ⟨i1, i2, fun hs => ⟨(i3 hs).1, fun j hj => ?_⟩⟩
      by_cases hjk : j = k
      · subst hjk; rw [← (i3 hs).1]; exact hc
      · exact (i3 hs).2 j (by omega)
theorem bf_dist {g : Gr} (hg : g.Ok) {down : List Bool} {node : Int} (hn : 0 ≤ node ∧ node < g.n) : ∀ (f : Nat) (d : List Int), (pot d).toNat < f → BfInv g down node d → IsDist g down node (bf g down f d) ∧ Small (bf g down f d)
  | 0, d, h, _ => by omega
  | f + 1, d, h, hd => by
    obtain ⟨i1, i2, i3⟩ := bf_sweep hg hn hd (2 * g.ls.length) (Nat.le_refl _)
    unfold bf
    cases hs : (bfSweep g down d).2 with
    | true =>
      rw [if_pos rfl]
      have p1 := pot_nonneg (bfSweep g down d).1
      have p2 := i2 hs
      refine bf_dist hg hn f _ ?_ i1
      unfold bfSweep at p1 ⊢
      omega
    | false =>
      simp only [Bool.false_eq_true, if_false]
      obtain ⟨e, hc⟩ := i3 hs
      have e' : (bfSweep g down d).1 = d := e
      rw [e']
      have closed : ∀ k, Use g down k → 0 ≤ at0 d (g.ends k).1 → 0 ≤ at0 d (g.ends k).2.1 ∧ at0 d (g.ends k).2.1 ≤ at0 d (g.ends k).1 + g.metric k := fun k hk h0 => by
        have := hc k.toNat (by have := hk.1; have := hk.2.1; omega)
        have ek : ((k.toNat : Nat) : Int) = k := Int.toNat_of_nonneg hk.1
        unfold bfCond at this
        rw [ek] at this
        have hdn : isDown down (k / 2) = false := by
          have := hk.2.2
          rw [up_down _ _ hk.1] at this
          simpa using this
        have h1 : ¬ (at0 d (g.ends k).2.1 < 0 ∨ at0 d (g.ends k).1 + g.metric k < at0 d (g.ends k).2.1) := fun hx => this ⟨h0, hdn, hx⟩
        omega
      refine ⟨⟨hd.len, hd.src, hd.neg, closed, fun v v0 v1 hv => ?_⟩, hd.small⟩
      rcases hd.reach v v0 v1 hv with h1 | ⟨k, k1, k2, k3, k4⟩
      · exact .inl h1
      · have := closed k k1 k3
        rw [k2] at this
        exact .inr ⟨k, k1, k2, k3, by omega⟩
theorem refFrom_spec {g : Gr} (hg : g.Ok) {down : List Bool} {node : Int} (hn : 0 ≤ node ∧ node < g.n) : IsDist g down node (refFrom g down node) ∧ Small (refFrom g down node) := by
  unfold refFrom
  rw [if_pos ⟨g.check_ok.2 hg, hn⟩]
  have hl : node.toNat < (List.replicate g.n.toNat (-1 : Int)).length := by simp; omega
  have get : ∀ v, 0 ≤ v → v < g.n → at0 ((List.replicate g.n.toNat (-1)).set node.toNat 0) v = if v = node then 0 else -1 := fun v v0 v1 => by
    rw [at0_set hn.1 hl v0]
    split
    · rfl
    · have : v.toNat < g.n.toNat := by omega
      simp [at0, List.getElem?_replicate, this]
  refine bf_dist hg hn _ _ (Nat.lt_succ_self _) ⟨by simp, ?_, fun v v0 v1 => ?_, ?_, fun v v0 v1 hv => ?_⟩
  · rw [get node hn.1 hn.2, if_pos rfl]
  · rw [get v v0 v1]
    split
    · exact .inr (Int.le_refl _)
    · exact .inl rfl
  · intro x hx
    rcases List.mem_or_eq_of_mem_set hx with h5 | h5
    · exact .inl (List.mem_replicate.1 h5).2
    · subst h5
      refine .inr ⟨Int.le_refl _, ?_⟩
      have e5 := neg_set (x := 0) hl (Int.le_refl _)
      have l5 := neg_le (List.replicate g.n.toNat (-1 : Int))
      simp at e5 ⊢
      omega
  · rw [get v v0 v1] at hv ⊢
    split at hv
    · rename_i e; exact .inl ⟨e, by rw [if_pos e]⟩
    · omega
theorem refFrom_dist {g : Gr} (hg : g.Ok) {down : List Bool} {node : Int} (hn : 0 ≤ node ∧ node < g.n) : IsDist g down node (refFrom g down node) := (refFrom_spec hg hn).1
theorem refFrom_mild {g : Gr} {down : List Bool} {node : Int} : ∀ x ∈ refFrom g down node, -1 ≤ x ∧ x ≤ 671088640 := by
  intro x hx
  by_cases h : g.check.2 = 0 ∧ 0 ≤ node ∧ node < g.n
  · have hg := g.check_ok.1 h.1
    obtain ⟨h1, h2⟩ := refFrom_spec (down := down) hg h.2
    have hl := h1.len
    have hn := hg.2.2.1
    have hneg := neg_le (refFrom g down node)
    rcases h2 x hx with h3 | h3
    · omega
    · omega
  · unfold refFrom at hx
    rw [if_neg h] at hx
    cases hx
theorem refFrom_nil {g : Gr} {down : List Bool} {node : Int} : refFrom g down node = [] ↔ ¬ (g.check.2 = 0 ∧ 0 ≤ node ∧ node < g.n) := by
  constructor
  · intro h h'
    have hg := g.check_ok.1 h'.1
    have hl := (refFrom_dist (down := down) hg h'.2).len
    rw [h] at hl
    simp at hl
    have := hg.2.1
    omega
  · intro h
    unfold refFrom
    rw [if_neg h]
end Go.Proofs

set_option linter.unusedVariables false
namespace Go.Proofs
/-! ### The heap's way -/
structure DjInv (g : Gr) (down : List Bool) (node : Int) (Q : Int → Prop) (h : List (Int × Int)) (out : List Int) : Prop where
  len : out.length = g.n.toNat
  ord : HOrd h
  neg : ∀ v, 0 ≤ v → v < g.n → at0 out v = -1 ∨ 0 ≤ at0 out v
  key0 : ∀ p ∈ h, 0 ≤ p.1 ∧ 0 ≤ p.2 ∧ p.2 < g.n
  src : at0 out node = 0 ∨ (at0 out node = -1 ∧ (0, node) ∈ h)
  mono : ∀ v, 0 ≤ v → v < g.n → 0 ≤ at0 out v → ∀ p ∈ h, at0 out v ≤ p.1
  edge : ∀ k, Use g down k → 0 ≤ at0 out (g.ends k).1 → (0 ≤ at0 out (g.ends k).2.1 ∧ at0 out (g.ends k).2.1 ≤ at0 out (g.ends k).1 + g.metric k) ∨ (at0 out (g.ends k).1 + g.metric k, (g.ends k).2.1) ∈ h ∨ Q k
  orig : ∀ p ∈ h, p = (0, node) ∨ ∃ k, Use g down k ∧ (g.ends k).2.1 = p.2 ∧ 0 ≤ at0 out (g.ends k).1 ∧ p.1 = at0 out (g.ends k).1 + g.metric k
  reach : ∀ v, 0 ≤ v → v < g.n → 0 ≤ at0 out v → (v = node ∧ at0 out v = 0) ∨ ∃ k, Use g down k ∧ (g.ends k).2.1 = v ∧ 0 ≤ at0 out (g.ends k).1 ∧ at0 out v = at0 out (g.ends k).1 + g.metric k

theorem Gr.out_mem {g : Gr} {k x : Int} (h0 : 0 ≤ k) (h1 : k < 2 * (g.ls.length : Int)) (h2 : (g.ends k).1 = x) : k ∈ g.out x := by
  unfold Gr.out Gr.outN
  rw [List.mem_filterMap]
  have e : ((k.toNat : Nat) : Int) = k := Int.toNat_of_nonneg h0
  exact ⟨k.toNat, List.mem_range.2 (by omega), by simp only [e]; rw [if_pos h2]⟩
theorem hpush_mem_iff {h : List (Int × Int)} {k v : Int} {p : Int × Int} : p ∈ hpush h k v ↔ p ∈ h ∨ p = (k, v) := by
  rw [(hpush_perm h k v).mem_iff]; simp
theorem mem_popped {h : List (Int × Int)} (hne : h ≠ []) {p : Int × Int} (hp : p ∈ h) : p = hg h 0 ∨ p ∈ popped h := by
  have := (popped_perm hne).mem_iff.2 hp
  simpa using this

theorem dj_relax {g : Gr} (hg : g.Ok) {down : List Bool} {node far at_ : Int} {out : List Int} (hfar : 0 ≤ far) (hat : at0 out at_ = far) (htop : ∀ v, 0 ≤ v → v < g.n → 0 ≤ at0 out v → at0 out v ≤ far) :
    ∀ (es : List Int) (h : List (Int × Int)), (∀ e ∈ es, 0 ≤ e ∧ e < 2 * (g.ls.length : Int) ∧ (g.ends e).1 = at_) → DjInv g down node (fun k => k ∈ es) h out → DjInv g down node (fun _ => False) (es.foldl (relax1 g down far out) h) out
  | [], h, _, hi => ⟨hi.len, hi.ord, hi.neg, hi.key0, hi.src, hi.mono, (fun k hk h0 => by
      rcases hi.edge k hk h0 with h1 | h1 | h1
      · exact .inl h1
      · exact .inr (.inl h1)
      · cases h1), hi.orig, hi.reach⟩
  | e :: r, h, hes, hi => by
    obtain ⟨e0, e1, e2⟩ := hes e (by simp)
    obtain ⟨v1, v2, v3, v4⟩ := g.ends_of hg e0 e1
    obtain ⟨m1, m2⟩ := g.metric_of hg e0 e1
    rw [List.foldl_cons]
    refine dj_relax hg hfar hat htop r _ (fun x hx => hes x (by simp [hx])) ?_
    unfold relax1
    by_cases hc : isUp down e = true ∧ out.getD (g.ends e).2.1.toNat 0 = -1
    · rw [if_pos hc]
      have huse : Use g down e := ⟨e0, e1, hc.1⟩
      refine ⟨hi.len, hpush_ord hi.ord _ _, hi.neg, fun p hp => ?_, ?_, fun v w0 w1 hv p hp => ?_, fun k hk h0 => ?_, fun p hp => ?_, hi.reach⟩
      · rcases hpush_mem hp with h1 | h1
        · exact hi.key0 p h1
        · subst h1; exact ⟨by show 0 ≤ far + g.metric e; omega, v2⟩
      · rcases hi.src with h1 | ⟨h1, h2⟩
        · exact .inl h1
        · exact .inr ⟨h1, hpush_mem_iff.2 (.inl h2)⟩
      · rcases hpush_mem hp with h1 | h1
        · exact hi.mono v w0 w1 hv p h1
        · subst h1
          have := htop v w0 w1 hv
          show at0 out v ≤ far + g.metric e
          omega
      · rcases hi.edge k hk h0 with h1 | h1 | h1
        · exact .inl h1
        · exact .inr (.inl (hpush_mem_iff.2 (.inl h1)))
        · rcases List.mem_cons.1 h1 with h2 | h2
          · subst h2
            refine .inr (.inl (hpush_mem_iff.2 (.inr ?_)))
            rw [e2, hat]
          · exact .inr (.inr h2)
      · rcases hpush_mem hp with h1 | h1
        · exact hi.orig p h1
        · subst h1
          exact .inr ⟨e, huse, rfl, by rw [e2, hat]; exact hfar, by rw [e2, hat]⟩
    · rw [if_neg hc]
      refine ⟨hi.len, hi.ord, hi.neg, hi.key0, hi.src, hi.mono, fun k hk h0 => ?_, hi.orig, hi.reach⟩
      rcases hi.edge k hk h0 with h1 | h1 | h1
      · exact .inl h1
      · exact .inr (.inl h1)
      · rcases List.mem_cons.1 h1 with h2 | h2
        · subst h2
          refine .inl ?_
          have h3 : ¬ (at0 out (g.ends k).2.1 = -1) := fun hx => hc ⟨hk.2.2, hx⟩
          have h4 := hi.neg _ v2.1 v2.2
          have h5 := htop _ v2.1 v2.2 (by omega)
          rw [e2, hat]
          omega
        · exact .inr (.inr h2)

theorem dj_skip {g : Gr} {down : List Bool} {node : Int} {h : List (Int × Int)} {out : List Int} (hne : h ≠ []) (hi : DjInv g down node (fun _ => False) h out) (hs : ¬ at0 out (hg h 0).2 = -1) : DjInv g down node (fun _ => False) (popped h) out := by
  have hm := hg0_mem hne
  obtain ⟨k1, k2, k3⟩ := hi.key0 _ hm
  have hs' := hi.neg _ k2 k3
  refine ⟨hi.len, popped_ord hi.ord, hi.neg, fun p hp => hi.key0 p (popped_mem hp), ?_, fun v w0 w1 hv p hp => hi.mono v w0 w1 hv p (popped_mem hp), fun k hk h0 => ?_, fun p hp => hi.orig p (popped_mem hp), hi.reach⟩
  · rcases hi.src with h1 | ⟨h1, h2⟩
    · exact .inl h1
    · rcases mem_popped hne h2 with h3 | h3
      · rw [← h3] at hs
        exact absurd h1 hs
      · exact .inr ⟨h1, h3⟩
  · rcases hi.edge k hk h0 with h1 | h1 | h1
    · exact .inl h1
    · rcases mem_popped hne h1 with h3 | h3
      · refine .inl ?_
        have e1 : (g.ends k).2.1 = (hg h 0).2 := congrArg Prod.snd h3
        have e2 : at0 out (g.ends k).1 + g.metric k = (hg h 0).1 := congrArg Prod.fst h3
        have := hi.mono _ k2 k3 (by omega) _ hm
        rw [e1, e2]
        omega
      · exact .inr (.inl h3)
    · exact h1.elim

theorem dj_take {g : Gr} (hg' : g.Ok) {down : List Bool} {node : Int} (hn : 0 ≤ node ∧ node < g.n) {h : List (Int × Int)} {out : List Int} (hne : h ≠ []) (hi : DjInv g down node (fun _ => False) h out) (hs : at0 out (hg h 0).2 = -1) :
    DjInv g down node (fun _ => False) ((g.out (hg h 0).2).foldl (relax1 g down (hg h 0).1 (out.set (hg h 0).2.toNat (hg h 0).1)) (popped h)) (out.set (hg h 0).2.toNat (hg h 0).1) := by
  have hm := hg0_mem hne
  obtain ⟨k1, k2, k3⟩ := hi.key0 _ hm
  have hmin : ∀ p ∈ h, (hg h 0).1 ≤ p.1 := fun p hp => root_le hi.ord hp
  have hmono0 : ∀ v, 0 ≤ v → v < g.n → 0 ≤ at0 out v → at0 out v ≤ (hg h 0).1 := fun v w0 w1 hv => hi.mono v w0 w1 hv _ hm
  have horig := hi.orig _ hm
  have hmp : ∀ p, p ∈ h → p = hg h 0 ∨ p ∈ popped h := fun p hp => mem_popped hne hp
  have hlen := hi.len
  have pairEq : hg h 0 = ((hg h 0).1, (hg h 0).2) := rfl
  generalize hfar : (hg h 0).1 = far at *
  generalize hat : (hg h 0).2 = at_ at *
  have hal : at_.toNat < out.length := by omega
  have get : ∀ v, 0 ≤ v → at0 (out.set at_.toNat far) v = if v = at_ then far else at0 out v := fun v w0 => at0_set k2 hal w0
  have same : ∀ v, 0 ≤ v → 0 ≤ at0 out v → at0 (out.set at_.toNat far) v = at0 out v := fun v w0 hv => by
    rw [get v w0]
    split
    · rename_i e; subst e; omega
    · rfl
  have htop : ∀ v, 0 ≤ v → v < g.n → 0 ≤ at0 (out.set at_.toNat far) v → at0 (out.set at_.toNat far) v ≤ far := fun v w0 w1 hv => by
    rw [get v w0] at hv ⊢
    split
    · exact Int.le_refl _
    · rename_i e; rw [if_neg e] at hv; exact hmono0 v w0 w1 hv
  refine dj_relax hg' k1 (by rw [get at_ k2, if_pos rfl]) htop _ _ (fun e he => ?_) ⟨by simpa using hlen, popped_ord hi.ord, fun v w0 w1 => ?_, fun p hp => hi.key0 p (popped_mem hp), ?_, fun v w0 w1 hv p hp => ?_, fun k hk h0 => ?_, fun p hp => ?_, fun v w0 w1 hv => ?_⟩
  · exact g.mem_out he
  · rw [get v w0]
    split
    · exact .inr k1
    · exact hi.neg v w0 w1
  · rw [get node hn.1]
    rcases hi.src with h1 | ⟨h1, h2⟩
    · refine .inl ?_
      split
      · rename_i e; subst e; omega
      · exact h1
    · by_cases e : node = at_
      · rw [if_pos e]
        have := hmin _ h2
        exact .inl (by simp at this; omega)
      · rw [if_neg e]
        rcases hmp _ h2 with h3 | h3
        · rw [pairEq] at h3
          exact absurd (congrArg Prod.snd h3) e
        · exact .inr ⟨h1, h3⟩
  · exact Int.le_trans (htop v w0 w1 hv) (hmin p (popped_mem hp))
  · obtain ⟨v1, v2, v3, v4⟩ := g.ends_of hg' hk.1 hk.2.1
    by_cases ea : (g.ends k).1 = at_
    · exact .inr (.inr (g.out_mem hk.1 hk.2.1 ea))
    · rw [get _ v1.1, if_neg ea] at h0 ⊢
      rcases hi.edge k hk h0 with h1 | h1 | h1
      · refine .inl ?_
        rw [same _ v2.1 h1.1]
        exact h1
      · rcases hmp _ h1 with h3 | h3
        · rw [pairEq] at h3
          have e1 : (g.ends k).2.1 = at_ := congrArg Prod.snd h3
          have e2 : at0 out (g.ends k).1 + g.metric k = far := congrArg Prod.fst h3
          refine .inl ?_
          rw [get _ v2.1, if_pos e1, e2]
          exact ⟨k1, Int.le_refl _⟩
        · exact .inr (.inl h3)
      · exact h1.elim
  · rcases hi.orig p (popped_mem hp) with h1 | ⟨k, q1, q2, q3, q4⟩
    · exact .inl h1
    · obtain ⟨v1, _⟩ := g.ends_of hg' q1.1 q1.2.1
      exact .inr ⟨k, q1, q2, by rw [same _ v1.1 q3]; exact q3, by rw [same _ v1.1 q3]; exact q4⟩
  · by_cases e : v = at_
    · rw [get v w0, if_pos e]
      rcases horig with h1 | ⟨k, q1, q2, q3, q4⟩
      · rw [pairEq] at h1
        exact .inl ⟨e.trans (congrArg Prod.snd h1), congrArg Prod.fst h1⟩
      · obtain ⟨v1, _⟩ := g.ends_of hg' q1.1 q1.2.1
        exact .inr ⟨k, q1, by rw [q2, e], by rw [same _ v1.1 q3]; exact q3, by rw [same _ v1.1 q3]; exact q4⟩
    · rw [get v w0, if_neg e] at hv ⊢
      rcases hi.reach v w0 w1 hv with h1 | ⟨k, q1, q2, q3, q4⟩
      · exact .inl h1
      · obtain ⟨v1, _⟩ := g.ends_of hg' q1.1 q1.2.1
        exact .inr ⟨k, q1, q2, by rw [same _ v1.1 q3]; exact q3, by rw [same _ v1.1 q3]; exact q4⟩

theorem dij_dist {g : Gr} (hok : g.Ok) {down : List Bool} {node : Int} (hn : 0 ≤ node ∧ node < g.n) : ∀ (f : Nat) (h : List (Int × Int)) (out : List Int), unset out * (2 * g.ls.length + 2) + h.length < f → DjInv g down node (fun _ => False) h out → IsDist g down node (dij g down f h out)
  | 0, h, out, hf, _ => by omega
  | f + 1, h, out, hf, hi => by
    unfold dij
    by_cases hne : h = []
    · rw [if_pos hne]
      subst hne
      refine ⟨hi.len, ?_, hi.neg, fun k hk h0 => ?_, hi.reach⟩
      · rcases hi.src with h1 | ⟨_, h2⟩
        · exact h1
        · cases h2
      · rcases hi.edge k hk h0 with h1 | h1 | h1
        · exact h1
        · cases h1
        · exact h1.elim
    · rw [if_neg hne]
      have hpl := popped_len hne
      by_cases hs : out.getD (hg h 0).2.toNat 0 = -1
      · rw [if_pos hs]
        obtain ⟨k1, k2, k3⟩ := hi.key0 _ (hg0_mem hne)
        have hlen := hi.len
        have hU := unset_set (x := (hg h 0).1) (i := (hg h 0).2.toNat) (by omega) hs k1
        have hlen2 : ∀ (es : List Int) (h' : List (Int × Int)), (es.foldl (relax1 g down (hg h 0).1 (out.set (hg h 0).2.toNat (hg h 0).1)) h').length ≤ h'.length + es.length := by
          intro es
          induction es with
          | nil => intro h'; simp
          | cons e r ih =>
            intro h'
            rw [List.foldl_cons]
            have := ih (relax1 g down (hg h 0).1 (out.set (hg h 0).2.toNat (hg h 0).1) h' e)
            have h2 : (relax1 g down (hg h 0).1 (out.set (hg h 0).2.toNat (hg h 0).1) h' e).length ≤ h'.length + 1 := by
              unfold relax1
              split
              · rw [hpush_len]; exact Nat.le_refl _
              · omega
            simp only [List.length_cons]
            omega
        have h3 := hlen2 (g.out (hg h 0).2) (popped h)
        have h4 := g.out_len (hg h 0).2
        refine dij_dist hok hn f _ _ ?_ (dj_take hok hn hne hi hs)
        rw [← hU, Nat.add_mul] at hf
        omega
      · rw [if_neg hs]
        exact dij_dist hok hn f _ _ (by omega) (dj_skip hne hi hs)
theorem spfFrom_dist {g : Gr} (hg : g.Ok) {down : List Bool} {node : Int} (hn : 0 ≤ node ∧ node < g.n) : IsDist g down node (spfFrom g down node) := by
  unfold spfFrom
  rw [if_pos ⟨g.check_ok.2 hg, hn⟩]
  have get : ∀ v, 0 ≤ v → v < g.n → at0 (List.replicate g.n.toNat (-1)) v = -1 := fun v v0 v1 => by
    have : v.toNat < g.n.toNat := by omega
    simp [at0, this]
  have hone : ∀ p, p ∈ hpush [] 0 node → p = (0, node) := fun p hp => by
    rcases hpush_mem hp with h1 | h1
    · cases h1
    · exact h1
  refine dij_dist hg hn _ _ _ ?_ ⟨by simp, hpush_ord (fun i h1 h2 => by simp at h2) _ _, fun v v0 v1 => .inl (get v v0 v1), fun p hp => ?_, .inr ⟨get node hn.1 hn.2, hpush_mem_iff.2 (.inr rfl)⟩, fun v v0 v1 hv => ?_, fun k hk h0 => ?_, fun p hp => .inl (hone p hp), fun v v0 v1 hv => ?_⟩
  · rw [hpush_len]
    unfold spfFuel unset
    simp
  · rw [hone p hp]; exact ⟨Int.le_refl _, hn⟩
  · rw [get v v0 v1] at hv; omega
  · obtain ⟨e1, _⟩ := g.ends_of hg hk.1 hk.2.1
    rw [get _ e1.1 e1.2] at h0; omega
  · rw [get v v0 v1] at hv; omega
/-- The heap's distances are the reference's. -/
theorem spf_eq_ref (g : Gr) (down : List Bool) (node : Int) : spfFrom g down node = refFrom g down node := by
  by_cases h : g.check.2 = 0 ∧ 0 ≤ node ∧ node < g.n
  · exact dist_uniq (g.check_ok.1 h.1) (spfFrom_dist (g.check_ok.1 h.1) h.2) (refFrom_dist (g.check_ok.1 h.1) h.2)
  · unfold spfFrom refFrom
    rw [if_neg h, if_neg h]
end Go.Proofs

set_option linter.unusedSimpArgs false
set_option linter.unusedVariables false
namespace Go.Proofs
open Go.Ab

/-! ### The next edges -/
def nextCond (g : Gr) (down : List Bool) (to : List Int) (node : Int) (e : Int) : Bool :=
  isUp down e && (decide (0 ≤ at0 to (g.ends e).2.1) && decide (at0 to node = at0 to (g.ends e).2.1 + g.metric e))
def nextOf (g : Gr) (down : List Bool) (to : List Int) (node : Int) : List Int :=
  if g.check.2 = 0 ∧ (to.length : Int) = g.n ∧ (0 ≤ node ∧ node < g.n) ∧ 0 < at0 to node then (g.out node).filter (nextCond g down to node) else []
def Mild (to : List Int) : Prop := ∀ x ∈ to, -1 ≤ x ∧ x ≤ 1000000000000

theorem spf_next_ok (g : Gr) (down : List Bool) (to : List Int) (node : Int) (hto : Mild to) : PGood Try.prog 38 [g.val, .lst (bools down), .lst (ints to), .i node] (.lst (ints (nextOf g down to node))) := by
  refine pgood_of_out 2 (good_of_wp isF38 (Nat.le_refl _) ?_)
  unfold ac38
  simp only [go_sem, simprocAttr, Gr.val]
  intro gid hgid
  have nil : ¬ (g.check.2 = 0 ∧ (to.length : Int) = g.n ∧ (0 ≤ node ∧ node < g.n) ∧ 0 < at0 to node) → ∀ σ : Store, Out 2 σ .nils (.lst (ints (nextOf g down to node))) := fun h σ => by
    unfold nextOf; rw [if_neg h]; exact out_nils
  simp only [go_sem, simprocAttr]
  refine good_imm (right_ok g) rfl ?_
  simp only [go_sem, simprocAttr]
  by_cases hc : g.check.2 = 0
  case neg =>
    simp only [go_sem, simprocAttr, hc]
    exact nil (fun h => hc h.1) _
  simp only [go_sem, simprocAttr, hc]
  by_cases hl : (to.length : Int) = g.n
  case neg =>
    simp only [go_sem, simprocAttr, hl]
    exact nil (fun h => hl h.2.1) _
  simp only [go_sem, simprocAttr, hl]
  refine good_imm (is_ok g.n (.lst (g.ls.map Lk.row)) node) rfl ?_
  simp only [go_sem, simprocAttr]
  by_cases hn : 0 ≤ node ∧ node < g.n
  case neg =>
    simp only [go_sem, simprocAttr, hn]
    exact nil (fun h => hn h.2.2.1) _
  have hni : node.toNat < to.length := by omega
  have x1 : (ints to)[node.toNat]? = some [.sc (.int .i64 (at0 to node))] := ints_get (by simp [hni])
  simp only [go_sem, simprocAttr, hn, x1]
  by_cases hp : at0 to node ≤ 0
  · simp only [go_sem, simprocAttr, hp]
    exact nil (fun h => by omega) _
  obtain ⟨k1, k2, k3, k4⟩ := g.check_ok.1 hc
  have hok : g.Ok := ⟨k1, k2, k3, k4⟩
  simp only [go_sem, simprocAttr, hp]
  refine good_imm (out_ok g node (by omega)) rfl ?_
  simp only [go_sem, simprocAttr]
  have fin : nextOf g down to node = (g.out node).filter (nextCond g down to node) := by unfold nextOf; rw [if_pos ⟨hc, hl, hn, by omega⟩]
  have hol := g.out_len node
  have gal : ∀ (o : Ab.Obj), Alive (Store.empty.set gid o) [gid] := fun o => alive_cons (Store.get_set_self _ _ _) alive_nil
  refine loop_rule (fun m fr σ => ∃ (j : Nat) (v : AVal), j ≤ (g.out node).length ∧ m = (g.out node).length - j ∧ fr = [(1, .lst (bools down)), (2, .lst (ints to)), (3, .i node), (4, .ptr gid 0 0 0), (9, v), (40, .lst (ints (g.out node))), (41, .i (g.out node).length), (42, .i j)] ∧
    σ.get gid = some (.row 0 false 2 [[.sc (.int .i64 g.n), .lst (g.ls.map Lk.row)]]) ∧ Acc σ 1 v (ints (((g.out node).take j).filter (nextCond g down to node))) [gid]) _
    ⟨0, .nils, by omega, rfl, rfl, by simp, acc_nils (gal _)⟩ ?_
  rintro m fr σ ⟨j, v, hj, rfl, rfl, g1, acc⟩
  simp only [go_sem, simprocAttr]
  refine .intro (fun hjl => ?_) (fun hjl => ?_)
  · have hjl' : j < (g.out node).length := by omega
    have hmem := List.getElem_mem hjl'
    have x2 : (ints (g.out node))[j]? = some [.sc (.int .i64 (g.out node)[j])] := ints_get (List.getElem?_eq_getElem hjl')
    have htake : ((g.out node).take (j + 1)).filter (nextCond g down to node) = ((g.out node).take j).filter (nextCond g down to node) ++ (if nextCond g down to node (g.out node)[j] then [(g.out node)[j]] else []) := by
      rw [List.take_succ_eq_append_getElem hjl', List.filter_append]
      congr 1
      simp [List.filter_cons]
    generalize (g.out node)[j] = e at *
    obtain ⟨e1, e2, e3⟩ := g.mem_out hmem
    obtain ⟨v1, v2, v3, v4⟩ := g.ends_of hok e1 e2
    obtain ⟨v5, v6⟩ := g.metric_of hok e1 e2
    have n4 : (0 : Int) ≤ j := by omega
    have w4 : IntKind.i64.wrap ((j : Int) + 1) = ((j + 1 : Nat) : Int) := by rw [wrap_id (by omega) (by omega)]; rfl
    simp only [go_sem, simprocAttr, n4, x2, rowAt_get g1]
    refine good_imm (ends_ok g e (by omega)) rfl ?_
    simp only [go_sem, simprocAttr]
    unfold op38_53
    simp only [go_sem, simprocAttr]
    refine goodD_imm (up_ok down e e1 (by omega)) rfl ?_
    have same : nextCond g down to node e = false → Back (fun m fr σ => ∃ (j : Nat) (v : AVal), j ≤ (g.out node).length ∧ m = (g.out node).length - j ∧ fr = [(1, .lst (bools down)), (2, .lst (ints to)), (3, .i node), (4, .ptr gid 0 0 0), (9, v), (40, .lst (ints (g.out node))), (41, .i (g.out node).length), (42, .i j)] ∧
        σ.get gid = some (.row 0 false 2 [[.sc (.int .i64 g.n), .lst (g.ls.map Lk.row)]]) ∧ Acc σ 1 v (ints (((g.out node).take j).filter (nextCond g down to node))) [gid]) ((g.out node).length - j)
        [(1, .lst (bools down)), (2, .lst (ints to)), (3, .i node), (4, .ptr gid 0 0 0), (9, v), (40, .lst (ints (g.out node))), (41, .i (g.out node).length), (42, .i ((j + 1 : Nat) : Int))] σ := fun hne => by
      refine back_of ((g.out node).length - (j + 1)) (by omega) ⟨j + 1, v, by omega, rfl, rfl, g1, ?_⟩
      rw [htake, hne]
      simpa using acc
    have hq : IntKind.i64.wrap (e.tdiv 2) = e / 2 := by
      rw [Int.tdiv_eq_ediv_of_nonneg (by omega)]
      exact wrap_id (by omega) (by omega)
    have hlt : (e / 2).toNat < g.ls.length := by omega
    have x4 : (g.ls.map Lk.row)[(e / 2).toNat]? = some [.sc (.int .i64 (g.ls[(e / 2).toNat]).a), .sc (.int .i64 (g.ls[(e / 2).toNat]).b), .sc (.int .i64 (g.metric e)), .sc (.int .i64 (g.ls[(e / 2).toNat]).c)] := by
      simp [hlt, Lk.row, Gr.metric]
    have n6 : (0 : Int) ≤ e / 2 := by omega
    have cond : nextCond g down to node e = (isUp down e && (decide (0 ≤ at0 to (g.ends e).2.1) && decide (at0 to node = at0 to (g.ends e).2.1 + g.metric e))) := rfl
    generalize hto' : (g.ends e).2.1 = b at *
    have hbi : b.toNat < to.length := by omega
    have x3 : (ints to)[b.toNat]? = some [.sc (.int .i64 (at0 to b))] := ints_get (by simp [hbi])
    have mb : -1 ≤ at0 to b ∧ at0 to b ≤ 1000000000000 := hto _ (by simp [hbi])
    have mn : -1 ≤ at0 to node ∧ at0 to node ≤ 1000000000000 := hto _ (by simp [hni])
    have w5 : IntKind.i64.wrap (at0 to node - g.metric e) = at0 to node - g.metric e := wrap_id (by omega) (by omega)
    have hn1 := hn.1
    have hnl : node < (to.length : Int) := by omega
    have hbl : b < (to.length : Int) := by omega
    simp only [go_sem, simprocAttr]
    cases q1 : isUp down e with
    | false =>
      simp only [go_sem, simprocAttr, w4]
      exact same (by rw [cond, q1]; rfl)
    | true =>
      simp only [go_sem, simprocAttr, v2.1, x3]
      by_cases q2 : 0 ≤ at0 to b
      · simp only [go_sem, simprocAttr, q2, hn1, x1, rowAt_get g1, hq, n6, x4, w5, v2.1, x3]
        by_cases q3 : at0 to node - g.metric e = at0 to b
        · simp only [go_sem, simprocAttr, q3]
          have ct : nextCond g down to node e = true := by
            have this : at0 to node = at0 to b + g.metric e := by omega
            rw [cond, q1, decide_eq_true q2, decide_eq_true this]; rfl
          intro id2 hid2
          simp only [go_sem, simprocAttr]
          have hlenf := List.length_filter_le (nextCond g down to node) ((g.out node).take j)
          have hlent : ((g.out node).take j).length ≤ j := by simp; omega
          refine acc_append (acc.fresh hid2 _) (by simp only [ints_len, List.length_cons, List.length_nil]; omega) (by simp only [ints_len, List.length_cons, List.length_nil]; omega) fun v' σ' k1 k2 => ?_
          simp only [go_sem, simprocAttr, w4]
          refine back_of _ ?_ ⟨j + 1, v', by omega, rfl, rfl, ?_, ?_⟩
          · omega
          · rw [k2 gid (by simp), get_fresh hid2 (by rw [g1]; rfl), g1]
          · rw [htake, ct, if_pos rfl, ints_app]
            exact k1.less (by simp)
        · simp only [go_sem, simprocAttr, q3, w4]
          refine same ?_
          have this : ¬ at0 to node = at0 to b + g.metric e := by omega
          rw [cond, q1, decide_eq_false this, Bool.and_false, Bool.and_false]
      · simp only [go_sem, simprocAttr, q2, w4]
        refine same ?_
        rw [cond, q1, decide_eq_false q2, Bool.false_and, Bool.and_false]
  · simp only [go_sem, simprocAttr]
    have e : j = (g.out node).length := by omega
    subst e
    rw [List.take_length] at acc
    rw [fin]
    exact acc_out acc (ints_sc _)
end Go.Proofs

set_option linter.unusedSimpArgs false
set_option linter.unusedVariables false
namespace Go.Proofs
open Go.Ab

theorem ref_next_ok (g : Gr) (down : List Bool) (to : List Int) (node : Int) (hto : Mild to) : PGood Try.prog 58 [g.val, .lst (bools down), .lst (ints to), .i node] (.lst (ints (nextOf g down to node))) := by
  refine pgood_of_out 2 (good_of_wp isF58 (Nat.le_refl _) ?_)
  unfold ac58
  simp only [go_sem, simprocAttr, Gr.val]
  intro gid hgid
  have nil : ¬ (g.check.2 = 0 ∧ (to.length : Int) = g.n ∧ (0 ≤ node ∧ node < g.n) ∧ 0 < at0 to node) → ∀ σ : Store, Out 2 σ .nils (.lst (ints (nextOf g down to node))) := fun h σ => by
    unfold nextOf; rw [if_neg h]; exact out_nils
  simp only [go_sem, simprocAttr]
  refine good_imm (rcheck_ok g) rfl ?_
  simp only [go_sem, simprocAttr]
  by_cases hc : g.check.2 = 0
  case neg =>
    simp only [go_sem, simprocAttr, hc]
    exact nil (fun h => hc h.1) _
  simp only [go_sem, simprocAttr, hc]
  by_cases hl : (to.length : Int) = g.n
  case neg =>
    simp only [go_sem, simprocAttr, hl]
    exact nil (fun h => hl h.2.1) _
  simp only [go_sem, simprocAttr, hl]
  refine good_imm (node_ok g.n (.lst (g.ls.map Lk.row)) node) rfl ?_
  simp only [go_sem, simprocAttr]
  by_cases hn : 0 ≤ node ∧ node < g.n
  case neg =>
    simp only [go_sem, simprocAttr, hn]
    exact nil (fun h => hn h.2.2.1) _
  have hni : node.toNat < to.length := by omega
  have x1 : (ints to)[node.toNat]? = some [.sc (.int .i64 (at0 to node))] := ints_get (by simp [hni])
  simp only [go_sem, simprocAttr, hn, x1]
  by_cases hp : at0 to node ≤ 0
  · simp only [go_sem, simprocAttr, hp]
    exact nil (fun h => by omega) _
  obtain ⟨k1, k2, k3, k4⟩ := g.check_ok.1 hc
  have hok : g.Ok := ⟨k1, k2, k3, k4⟩
  simp only [go_sem, simprocAttr, hp]
  refine good_imm (rout_ok g node (by omega)) rfl ?_
  simp only [go_sem, simprocAttr]
  have fin : nextOf g down to node = (g.out node).filter (nextCond g down to node) := by unfold nextOf; rw [if_pos ⟨hc, hl, hn, by omega⟩]
  have hol := g.out_len node
  have gal : ∀ (o : Ab.Obj), Alive (Store.empty.set gid o) [gid] := fun o => alive_cons (Store.get_set_self _ _ _) alive_nil
  refine loop_rule (fun m fr σ => ∃ (j : Nat) (v : AVal), j ≤ (g.out node).length ∧ m = (g.out node).length - j ∧ fr = [(1, .lst (bools down)), (2, .lst (ints to)), (3, .i node), (4, .ptr gid 0 0 0), (11, v), (12, .lst (ints (g.out node))), (13, .i j)] ∧
    σ.get gid = some (.row 0 false 2 [[.sc (.int .i64 g.n), .lst (g.ls.map Lk.row)]]) ∧ Acc σ 1 v (ints (((g.out node).take j).filter (nextCond g down to node))) [gid]) _
    ⟨0, .nils, by omega, rfl, rfl, by simp, acc_nils (gal _)⟩ ?_
  rintro m fr σ ⟨j, v, hj, rfl, rfl, g1, acc⟩
  simp only [go_sem, simprocAttr]
  refine .intro (fun hjl => ?_) (fun hjl => ?_)
  · have hjl' : j < (g.out node).length := by omega
    have hmem := List.getElem_mem hjl'
    have x2 : (ints (g.out node))[j]? = some [.sc (.int .i64 (g.out node)[j])] := ints_get (List.getElem?_eq_getElem hjl')
    have htake : ((g.out node).take (j + 1)).filter (nextCond g down to node) = ((g.out node).take j).filter (nextCond g down to node) ++ (if nextCond g down to node (g.out node)[j] then [(g.out node)[j]] else []) := by
      rw [List.take_succ_eq_append_getElem hjl', List.filter_append]
      congr 1
      simp [List.filter_cons]
    generalize (g.out node)[j] = e at *
    obtain ⟨e1, e2, e3⟩ := g.mem_out hmem
    obtain ⟨v1, v2, v3, v4⟩ := g.ends_of hok e1 e2
    obtain ⟨v5, v6⟩ := g.metric_of hok e1 e2
    have n4 : (0 : Int) ≤ j := by omega
    have w4 : IntKind.i64.wrap ((j : Int) + 1) = ((j + 1 : Nat) : Int) := by rw [wrap_id (by omega) (by omega)]; rfl
    have hjl2 : (j : Int) < (g.out node).length := hjl
    simp only [go_sem, simprocAttr]
    unfold op58_54
    simp only [go_sem, simprocAttr, n4, x2, rowAt_get g1]
    refine goodD_imm (rends_ok g e (by omega)) rfl ?_
    simp only [go_sem, simprocAttr]
    unfold op58_63
    have hq : IntKind.i64.wrap (e.tdiv 2) = e / 2 := by
      rw [Int.tdiv_eq_ediv_of_nonneg (by omega)]
      exact wrap_id (by omega) (by omega)
    simp only [go_sem, simprocAttr, n4, x2, hq]
    refine goodD_imm (isdown_ok down (e / 2)) rfl ?_
    have same : nextCond g down to node e = false → Back (fun m fr σ => ∃ (j : Nat) (v : AVal), j ≤ (g.out node).length ∧ m = (g.out node).length - j ∧ fr = [(1, .lst (bools down)), (2, .lst (ints to)), (3, .i node), (4, .ptr gid 0 0 0), (11, v), (12, .lst (ints (g.out node))), (13, .i j)] ∧
        σ.get gid = some (.row 0 false 2 [[.sc (.int .i64 g.n), .lst (g.ls.map Lk.row)]]) ∧ Acc σ 1 v (ints (((g.out node).take j).filter (nextCond g down to node))) [gid]) ((g.out node).length - j)
        [(1, .lst (bools down)), (2, .lst (ints to)), (3, .i node), (4, .ptr gid 0 0 0), (11, v), (12, .lst (ints (g.out node))), (13, .i ((j + 1 : Nat) : Int))] σ := fun hne => by
      refine back_of ((g.out node).length - (j + 1)) (by omega) ⟨j + 1, v, by omega, rfl, rfl, g1, ?_⟩
      rw [htake, hne]
      simpa using acc
    have hlt : (e / 2).toNat < g.ls.length := by omega
    have x4 : (g.ls.map Lk.row)[(e / 2).toNat]? = some [.sc (.int .i64 (g.ls[(e / 2).toNat]).a), .sc (.int .i64 (g.ls[(e / 2).toNat]).b), .sc (.int .i64 (g.metric e)), .sc (.int .i64 (g.ls[(e / 2).toNat]).c)] := by
      simp [hlt, Lk.row, Gr.metric]
    have n6 : (0 : Int) ≤ e / 2 := by omega
    have cond : nextCond g down to node e = (isUp down e && (decide (0 ≤ at0 to (g.ends e).2.1) && decide (at0 to node = at0 to (g.ends e).2.1 + g.metric e))) := rfl
    generalize hto' : (g.ends e).2.1 = b at *
    have hbi : b.toNat < to.length := by omega
    have x3 : (ints to)[b.toNat]? = some [.sc (.int .i64 (at0 to b))] := ints_get (by simp [hbi])
    have mb : -1 ≤ at0 to b ∧ at0 to b ≤ 1000000000000 := hto _ (by simp [hbi])
    have mn : -1 ≤ at0 to node ∧ at0 to node ≤ 1000000000000 := hto _ (by simp [hni])
    have w5 : IntKind.i64.wrap (at0 to node - at0 to b) = at0 to node - at0 to b := wrap_id (by omega) (by omega)
    have ud := up_down down e e1
    have hn1 := hn.1
    have hnl : node < (to.length : Int) := by omega
    have hbl : b < (to.length : Int) := by omega
    simp only [go_sem, simprocAttr]
    cases q0 : isDown down (e / 2) with
    | true =>
      have q1 : isUp down e = false := by rw [ud, q0]; rfl
      simp only [go_sem, simprocAttr, w4]
      exact same (by rw [cond, q1]; rfl)
    | false =>
      have q1 : isUp down e = true := by rw [ud, q0]; rfl
      simp only [go_sem, simprocAttr, v2.1, x3]
      by_cases q2 : 0 ≤ at0 to b
      · simp only [go_sem, simprocAttr, q2, hn1, x1, rowAt_get g1, hq, n6, x4, w5, v2.1, x3, n4, x2]
        by_cases q3 : at0 to node - at0 to b = g.metric e
        · simp only [go_sem, simprocAttr, q3, n4, x2]
          have ct : nextCond g down to node e = true := by
            have this : at0 to node = at0 to b + g.metric e := by omega
            rw [cond, q1, decide_eq_true q2, decide_eq_true this]; rfl
          intro id2 hid2
          simp only [go_sem, simprocAttr]
          have hlenf := List.length_filter_le (nextCond g down to node) ((g.out node).take j)
          have hlent : ((g.out node).take j).length ≤ j := by simp; omega
          refine acc_append (acc.fresh hid2 _) (by simp only [ints_len, List.length_cons, List.length_nil]; omega) (by simp only [ints_len, List.length_cons, List.length_nil]; omega) fun v' σ' k1 k2 => ?_
          simp only [go_sem, simprocAttr, w4]
          refine back_of _ ?_ ⟨j + 1, v', by omega, rfl, rfl, ?_, ?_⟩
          · omega
          · rw [k2 gid (by simp), get_fresh hid2 (by rw [g1]; rfl), g1]
          · rw [htake, ct, if_pos rfl, ints_app]
            exact k1.less (by simp)
        · simp only [go_sem, simprocAttr, q3, w4]
          refine same ?_
          have this : ¬ at0 to node = at0 to b + g.metric e := by omega
          rw [cond, q1, decide_eq_false this, Bool.and_false, Bool.and_false]
      · simp only [go_sem, simprocAttr, q2, w4]
        refine same ?_
        rw [cond, q1, decide_eq_false q2, Bool.false_and, Bool.and_false]
  · simp only [go_sem, simprocAttr]
    have e : j = (g.out node).length := by omega
    subst e
    rw [List.take_length] at acc
    rw [fin]
    exact acc_out acc (ints_sc _)
end Go.Proofs

set_option linter.unusedSimpArgs false
set_option linter.unusedVariables false
namespace Go.Proofs
open Go.Ab

theorem same_ok (a b : List Int) (ha : a.length < 1000000000) : PGood Try.prog 34 [.lst (ints a), .lst (ints b)] (.b (decide (a = b))) := by
  refine pgood_of_out 1 (good_of_wp isF34 (Nat.le_refl _) ?_)
  unfold ac34
  simp only [go_sem, simprocAttr]
  by_cases hl : (a.length : Int) = b.length
  case neg =>
    simp only [go_sem, simprocAttr, hl]
    have e : ¬ a = b := fun e => hl (by rw [e])
    rw [decide_eq_false e]
    exact out_sc
  simp only [go_sem, simprocAttr, hl]
  refine loop_rule (fun m fr σ => ∃ (i : Nat), i ≤ a.length ∧ m = a.length - i ∧ fr = [(0, .lst (ints a)), (1, .lst (ints b)), (5, .i i)] ∧ a.take i = b.take i) _ ⟨0, by omega, rfl, rfl, rfl⟩ ?_
  rintro m fr σ ⟨i, hi, rfl, rfl, ht⟩
  simp only [go_sem, simprocAttr, hl]
  refine .intro (fun h => ?_) (fun h => ?_)
  · have hia : i < a.length := by omega
    have hib : i < b.length := by omega
    have x1 : (ints a)[i]? = some [.sc (.int .i64 a[i])] := ints_get (List.getElem?_eq_getElem hia)
    have x2 : (ints b)[i]? = some [.sc (.int .i64 b[i])] := ints_get (List.getElem?_eq_getElem hib)
    have n1 : (0 : Int) ≤ i := by omega
    have w4 : IntKind.i64.wrap ((i : Int) + 1) = ((i + 1 : Nat) : Int) := by rw [wrap_id (by omega) (by omega)]; rfl
    have t1 : a.take (i + 1) = a.take i ++ [a[i]] := List.take_succ_eq_append_getElem hia
    have t2 : b.take (i + 1) = b.take i ++ [b[i]] := List.take_succ_eq_append_getElem hib
    generalize ga : a[i] = u at *
    generalize gb : b[i] = v at *
    simp only [go_sem, simprocAttr]
    unfold op34_17
    simp only [go_sem, simprocAttr, x1, x2, n1]
    by_cases huv : u = v
    · subst huv
      simp only [go_sem, simprocAttr, w4]
      exact back_of _ (by omega) ⟨i + 1, by omega, rfl, rfl, by rw [t1, t2, ht]⟩
    · simp only [go_sem, simprocAttr, huv]
      have e : ¬ a = b := fun e => huv (by subst e; rw [← ga, ← gb])
      rw [decide_eq_false e]
      exact out_sc
  · simp only [go_sem, simprocAttr]
    have e : a = b := by
      have e1 : i = a.length := by omega
      subst e1
      rw [List.take_length, List.take_of_length_le (by omega)] at ht
      exact ht
    rw [decide_eq_true e]
    exact out_sc
end Go.Proofs

set_option linter.unusedSimpArgs false
set_option linter.unusedVariables false
namespace Go.Proofs
open Go.Ab

theorem links_sc (l : List Lk) : ∀ y ∈ l.map Lk.row, ∀ c ∈ y, ∃ v, c = .sc v := by
  intro y hy c hc
  simp only [List.mem_map] at hy
  obtain ⟨k, _, rfl⟩ := hy
  simp only [Lk.row, List.mem_cons, List.mem_nil_iff, or_false] at hc
  rcases hc with rfl | rfl | rfl | rfl <;> exact ⟨_, rfl⟩
theorem links_len (l : List Lk) : (l.map Lk.row).all (·.length == 4) = true := by simp [Lk.row]
theorem ints_all (l : List Int) : (ints l).all (·.length == 1) = true := by simp [ints]

theorem clone_links_ok (ls : List Lk) (h : ls.length ≤ 1000000) : PGood Try.prog 36 [.lst (ls.map Lk.row)] (.lst (ls.map Lk.row)) := by
  refine pgood_of_out 3 (good_of_wp isF36 (Nat.le_refl _) ?_)
  unfold ac36
  have hall := links_len ls
  have hsc := links_sc ls
  have hlen : (ls.map Lk.row).length ≤ 1000000 := by simpa [ints] using h
  generalize ls.map Lk.row = xs at *
  have key : ∀ (id : Nat) (σ : Store) (K : AVal → Store → Prop), σ.get id = none → (∀ v' σ', Acc σ' 4 v' xs [] → K v' σ') → wpRes Try.prog (appendA (σ.set id (Obj.row 0 false 4 [])) 4 32 (AVal.sl id 0 0 0 4) xs) K (σ.set id (Obj.row 0 false 4 [])) := fun id σ K hid hK => by
    have a0 : Acc (σ.set id (Obj.row 0 false 4 [])) 4 (AVal.sl id 0 0 0 4) [] [] := acc_new (rows := []) alive_nil hid
    refine acc_append a0 (by simp only [List.length_nil]; omega) (by simp only [List.length_nil]; omega) fun v' σ' k1 k2 => hK v' σ' (by simpa using k1)
  cases xs with
  | nil =>
    simp only [go_sem, simprocAttr]
    refine ⟨out_nils, ?_⟩
    intro id hid
    simp only [go_sem, simprocAttr, List.all_nil]
    refine key id _ _ hid fun v' σ' k1 => ?_
    simp only [go_sem, simprocAttr]
    exact acc_out k1 hsc
  | cons x r =>
    simp only [go_sem, simprocAttr]
    intro id hid
    simp only [go_sem, simprocAttr, hall]
    refine key id _ _ hid fun v' σ' k1 => ?_
    simp only [go_sem, simprocAttr]
    exact acc_out k1 hsc
theorem clone_ints_ok (l : List Int) (h : l.length ≤ 1000000) : PGood Try.prog 89 [.lst (ints l)] (.lst (ints l)) := by
  refine pgood_of_out 3 (good_of_wp isF89 (Nat.le_refl _) ?_)
  unfold ac89
  have hall := ints_all l
  have hsc := ints_sc l
  have hlen : (ints l).length ≤ 1000000 := by simpa [ints] using h
  generalize ints l = xs at *
  have key : ∀ (id : Nat) (σ : Store) (K : AVal → Store → Prop), σ.get id = none → (∀ v' σ', Acc σ' 1 v' xs [] → K v' σ') → wpRes Try.prog (appendA (σ.set id (Obj.row 0 false 1 [])) 1 8 (AVal.sl id 0 0 0 1) xs) K (σ.set id (Obj.row 0 false 1 [])) := fun id σ K hid hK => by
    have a0 : Acc (σ.set id (Obj.row 0 false 1 [])) 1 (AVal.sl id 0 0 0 1) [] [] := acc_new (rows := []) alive_nil hid
    refine acc_append a0 (by simp only [List.length_nil]; omega) (by simp only [List.length_nil]; omega) fun v' σ' k1 k2 => hK v' σ' (by simpa using k1)
  cases xs with
  | nil =>
    simp only [go_sem, simprocAttr]
    refine ⟨out_nils, ?_⟩
    intro id hid
    simp only [go_sem, simprocAttr, List.all_nil]
    refine key id _ _ hid fun v' σ' k1 => ?_
    simp only [go_sem, simprocAttr]
    exact acc_out k1 hsc
  | cons x r =>
    simp only [go_sem, simprocAttr]
    intro id hid
    simp only [go_sem, simprocAttr, hall]
    refine key id _ _ hid fun v' σ' k1 => ?_
    simp only [go_sem, simprocAttr]
    exact acc_out k1 hsc
end Go.Proofs

set_option linter.unusedSimpArgs false
set_option linter.unusedVariables false
namespace Go.Proofs
open Go.Ab

/-! ### slices.IndexFunc, Index, ContainsFunc, Contains of ints -/
def idxP (q : Int → Bool) : List Int → Nat → Int
  | [], _ => -1
  | x :: r, i => if q x = true then i else idxP q r (i + 1)
theorem idxP_cons (q : Int → Bool) (x : Int) (r : List Int) (i : Nat) : idxP q (x :: r) i = if q x = true then (i : Int) else idxP q r (i + 1) := rfl
theorem idxP_nonneg (q : Int → Bool) : ∀ (l : List Int) (i : Nat), decide (0 ≤ idxP q l i) = l.any q
  | [], i => by simp [idxP]
  | x :: r, i => by
    unfold idxP
    cases h : q x with
    | true => simp [h]
    | false => simp [h, idxP_nonneg q r (i + 1)]
theorem drop_of_get {α : Type} {l : List α} {i : Nat} {x : α} (h : l[i]? = some x) : l.drop i = x :: l.drop (i + 1) := by
  obtain ⟨h1, h2⟩ := List.getElem?_eq_some_iff.1 h
  rw [List.drop_eq_getElem_cons h1, h2]

theorem indexf_ok (xs : List Int) (f : FuncId) (caps : List AVal) (q : Int → Bool) (hl : xs.length ≤ 1000000) (hi : caps.all (immA 4) = true) (hq : ∀ x ∈ xs, PGood Try.prog f (.i x :: caps) (.b (q x))) : PGood Try.prog 94 [.lst (ints xs), .func f caps] (.i (idxP q xs 0)) := by
  refine pgood_of_out 3 (good_of_wp isF94 (Nat.le_refl _) ?_)
  unfold ac94
  simp only [go_sem, simprocAttr]
  refine loop_rule (fun m fr σ => ∃ (i : Nat), i ≤ xs.length ∧ m = xs.length - i ∧ fr = [(0, .lst (ints xs)), (1, .func f caps), (7, .i xs.length), (8, .i i)] ∧ idxP q xs 0 = idxP q (xs.drop i) i) xs.length ⟨0, by omega, rfl, rfl, rfl⟩ ?_
  rintro m fr σ ⟨i, h1, rfl, rfl, h2⟩
  simp only [go_sem, simprocAttr]
  refine .intro (fun h => ?_) (fun h => ?_)
  · have hx : xs[i]? = some xs[i] := List.getElem?_eq_getElem (by omega)
    have hg := ints_get hx
    have hd := drop_of_get hx
    generalize xs[i]'(by omega) = x at *
    have q0 : (0 : Int) ≤ (i : Int) := by omega
    simp only [go_sem, simprocAttr, hg, q0]
    refine good_imm (hq x (List.mem_of_getElem? hx)) (by rw [List.all_cons, hi]; rfl) ?_
    have hw : IntKind.i64.wrap ((i : Int) + 1) = ((i + 1 : Nat) : Int) := by rw [wrap_id (by omega) (by omega)]; rfl
    rw [hd, idxP_cons] at h2
    cases hc : q x with
    | true =>
      simp only [go_sem, simprocAttr]
      rw [h2, if_pos hc]
      exact out_sc
    | false =>
      simp only [go_sem, simprocAttr, hw]
      rw [if_neg (by rw [hc]; decide)] at h2
      exact back_of _ (by omega) ⟨i + 1, by omega, rfl, rfl, h2⟩
  · simp only [go_sem, simprocAttr]
    have e : xs.drop i = [] := List.drop_eq_nil_of_le (by omega)
    rw [h2, e]
    exact out_sc

theorem index_ok (xs : List Int) (x0 : Int) (hl : xs.length ≤ 1000000) : PGood Try.prog 95 [.lst (ints xs), .i x0] (.i (idxP (fun x => decide (x0 = x)) xs 0)) := by
  refine pgood_of_out 3 (good_of_wp isF95 (Nat.le_refl _) ?_)
  unfold ac95
  simp only [go_sem, simprocAttr]
  refine loop_rule (fun m fr σ => ∃ (i : Nat), i ≤ xs.length ∧ m = xs.length - i ∧ fr = [(0, .lst (ints xs)), (1, .i x0), (7, .i xs.length), (8, .i i)] ∧ idxP (fun x => decide (x0 = x)) xs 0 = idxP (fun x => decide (x0 = x)) (xs.drop i) i) xs.length ⟨0, by omega, rfl, rfl, rfl⟩ ?_
  rintro m fr σ ⟨i, h1, rfl, rfl, h2⟩
  simp only [go_sem, simprocAttr]
  refine .intro (fun h => ?_) (fun h => ?_)
  · have hx : xs[i]? = some xs[i] := List.getElem?_eq_getElem (by omega)
    have hg := ints_get hx
    have hd := drop_of_get hx
    generalize xs[i]'(by omega) = x at *
    have q0 : (0 : Int) ≤ (i : Int) := by omega
    simp only [go_sem, simprocAttr, hg, q0]
    have hw : IntKind.i64.wrap ((i : Int) + 1) = ((i + 1 : Nat) : Int) := by rw [wrap_id (by omega) (by omega)]; rfl
    rw [hd, idxP_cons] at h2
    refine .intro (fun hc => ?_) (fun hc => ?_)
    · simp only [go_sem, simprocAttr]
      rw [h2, if_pos (by simpa using hc)]
      exact out_sc
    · simp only [go_sem, simprocAttr, hw]
      rw [if_neg (by simpa using hc)] at h2
      exact back_of _ (by omega) ⟨i + 1, by omega, rfl, rfl, h2⟩
  · simp only [go_sem, simprocAttr]
    have e : xs.drop i = [] := List.drop_eq_nil_of_le (by omega)
    rw [h2, e]
    exact out_sc

theorem containsf_ok (xs : List Int) (f : FuncId) (caps : List AVal) (q : Int → Bool) (hl : xs.length ≤ 1000000) (hi : caps.all (immA 3) = true) (hi4 : caps.all (immA 4) = true) (hq : ∀ x ∈ xs, PGood Try.prog f (.i x :: caps) (.b (q x))) : PGood Try.prog 82 [.lst (ints xs), .func f caps] (.b (xs.any q)) := by
  refine pgood_of_out 3 (good_of_wp isF82 (Nat.le_refl _) ?_)
  unfold ac82
  simp only [go_sem, simprocAttr]
  refine good_imm (indexf_ok xs f caps q hl hi4 hq) (by simp [immA] at hi ⊢; exact hi) ?_
  simp only [go_sem, simprocAttr]
  rw [idxP_nonneg]
  exact out_sc
theorem contains_ok (xs : List Int) (x0 : Int) (hl : xs.length ≤ 1000000) : PGood Try.prog 83 [.lst (ints xs), .i x0] (.b (xs.contains x0)) := by
  refine pgood_of_out 3 (good_of_wp isF83 (Nat.le_refl _) ?_)
  unfold ac83
  simp only [go_sem, simprocAttr]
  refine good_imm (index_ok xs x0 hl) rfl ?_
  simp only [go_sem, simprocAttr]
  rw [idxP_nonneg]
  refine sub_out out_sc ?_
  congr 2
  induction xs with
  | nil => rfl
  | cons x r ih => rw [List.any_cons, List.contains_cons, ih (by simp at hl; omega)]; congr 1

/-! ### What may be wanted -/
structure Wt where
  from_ : Int
  to : Int
  bound : Int
  via : List Int
  nodes : List Int
  links : List Int
  cols : List Int
def Wt.cells (w : Wt) : List AVal := [.sc (.int .i64 w.from_), .sc (.int .i64 w.to), .sc (.int .i64 w.bound), .lst (ints w.via), .lst (ints w.nodes), .lst (ints w.links), .lst (ints w.cols)]
def Wt.val (w : Wt) : AVal := .agg w.cells
/-- Short lists. -/
structure Wt.Few (w : Wt) : Prop where
  via : w.via.length ≤ 1000
  nodes : w.nodes.length ≤ 1000
  links : w.links.length ≤ 1000
  cols : w.cols.length ≤ 1000

def Gr.noNode (g : Gr) (x : Int) : Bool := !decide (0 ≤ x ∧ x < g.n)
def Gr.noLink (g : Gr) (x : Int) : Bool := decide (x < 0) || decide ((g.ls.length : Int) ≤ x)
def noCol (x : Int) : Bool := decide (x < 0) || decide (62 < x)
theorem nonode_ok (g : Gr) (x : Int) : PGood Try.prog 79 [.i x, .iptr [.i g.n, .lst (g.ls.map Lk.row)] 0] (.b (g.noNode x)) := by
  refine pgood_of_out 3 (good_of_wp isF79 (Nat.le_refl _) ?_)
  unfold ac79
  simp only [go_sem, simprocAttr]
  refine good_imm (is_ok g.n _ x) rfl ?_
  simp only [go_sem, simprocAttr]
  exact out_sc
theorem nolink_ok (g : Gr) (x : Int) : PGood Try.prog 80 [.i x, .iptr [.i g.n, .lst (g.ls.map Lk.row)] 0] (.b (g.noLink x)) := by
  refine pgood_of_out 3 (good_of_wp isF80 (Nat.le_refl _) ?_)
  unfold ac80
  simp only [go_sem, simprocAttr]
  refine .intro (fun h => ?_) (fun h => ?_)
  · simp only [go_sem, simprocAttr, h]
    exact sub_out out_sc (by simp [Gr.noLink, h])
  · simp only [go_sem, simprocAttr, h]
    exact sub_out out_sc (by simp [Gr.noLink, h])
theorem nocol_ok (x : Int) : PGood Try.prog 81 [.i x] (.b (noCol x)) := by
  refine pgood_of_out 3 (good_of_wp isF81 (Nat.le_refl _) ?_)
  unfold ac81
  simp only [go_sem, simprocAttr]
  refine .intro (fun h => ?_) (fun h => ?_)
  · simp only [go_sem, simprocAttr, h]
    exact sub_out out_sc (by simp [noCol, h])
  · simp only [go_sem, simprocAttr, h]
    exact sub_out out_sc (by simp [noCol, h])
end Go.Proofs

set_option linter.unusedSimpArgs false
set_option linter.unusedVariables false
namespace Go.Proofs
open Go.Ab

def rightOf (g : Gr) (w : Wt) : Int :=
  if g.check.2 ≠ 0 then g.check.2
  else if (g.noNode w.from_ || g.noNode w.to || w.via.any g.noNode || w.nodes.any g.noNode) = true then 4
  else if w.links.any g.noLink = true then 5
  else if (w.cols.any noCol || decide (w.bound < 0)) = true then 1
  else if 4 < w.via.length then 6 else 0

theorem right_want_ok (g : Gr) (w : Wt) (hw : w.Few) : PGood Try.prog 65 [g.val, w.val] (.i (rightOf g w)) := by
  refine pgood_of_out 3 (good_of_wp isF65 (Nat.le_refl _) ?_)
  unfold ac65
  simp only [go_sem, simprocAttr, Gr.val, Wt.val, Wt.cells]
  intro gid hgid
  simp only [go_sem, simprocAttr]
  intro wid hwid
  have f1 := fun o => rowAt_fresh (o := o) hwid (j := gid) (ver := 0) (by rw [rowAt_self]; rfl)
  simp only [go_sem, simprocAttr, f1]
  refine good_imm (check_ok g) rfl ?_
  simp only [go_sem, simprocAttr]
  have gfn : ∀ σ : Store, Ab.rowAt σ gid 0 = some (false, 2, [[.sc (.int .i64 g.n), .lst (g.ls.map Lk.row)]]) → Out 3 σ (.ptr gid 0 0 0) (.iptr [.i g.n, .lst (g.ls.map Lk.row)] 0) := fun σ h => out_ptr (m := 2) h rfl ⟨out_sc, out_imm rfl, trivial⟩
  by_cases h0' : g.check.2 = 0
  case neg =>
    simp only [go_sem, simprocAttr, h0']
    exact sub_out out_sc (by unfold rightOf; rw [if_pos h0'])
  simp only [go_sem, simprocAttr, h0']
  have e0 : rightOf g w = if (g.noNode w.from_ || g.noNode w.to || w.via.any g.noNode || w.nodes.any g.noNode) = true then 4
    else if w.links.any g.noLink = true then 5
    else if (w.cols.any noCol || decide (w.bound < 0)) = true then 1
    else if 4 < w.via.length then 6 else 0 := by unfold rightOf; rw [if_neg (by rw [h0']; decide)]
  have g1 := gfn _ ((f1 (.row 0 false 7 [[.sc (.int .i64 w.from_), .sc (.int .i64 w.to), .sc (.int .i64 w.bound), .lst (ints w.via), .lst (ints w.nodes), .lst (ints w.links), .lst (ints w.cols)]])).trans rowAt_self)
  have g2 := out_func (f := 79) (m := 3) (cs := [.ptr gid 0 0 0]) (ds := [.iptr [.i g.n, .lst (g.ls.map Lk.row)] 0]) ⟨g1, trivial⟩
  have g3 := out_func (f := 80) (m := 3) (cs := [.ptr gid 0 0 0]) (ds := [.iptr [.i g.n, .lst (g.ls.map Lk.row)] 0]) ⟨g1, trivial⟩
  have c4 : ∀ (K : AVal → Store → Prop) σ, (1 : Nat) = 1 → K (.i (rightOf g w)) σ → K (.i (rightOf g w)) σ := fun _ _ _ h => h
  refine good_out 3 (outL2 (out_imm rfl) g1) (nonode_ok g w.from_) rfl ?_
  simp only [go_sem, simprocAttr]
  -- the nodes
  have rest : ∀ (b : Bool), b = (g.noNode w.from_ || g.noNode w.to || w.via.any g.noNode || w.nodes.any g.noNode) → True := fun _ _ => trivial
  cases h1 : g.noNode w.from_ with
  | true =>
    rw [h1] at e0
    simp only [go_sem, simprocAttr] at e0 ⊢
    exact sub_out out_sc (by rw [e0])
  | false =>
  simp only [go_sem, simprocAttr]
  refine good_out 3 (outL2 (out_imm rfl) g1) (nonode_ok g w.to) rfl ?_
  simp only [go_sem, simprocAttr]
  cases h2 : g.noNode w.to with
  | true =>
    rw [h1, h2] at e0
    simp only [go_sem, simprocAttr] at e0 ⊢
    exact sub_out out_sc (by rw [e0])
  | false =>
  simp only [go_sem, simprocAttr]
  refine good_out 4 (outL2 (out_imm rfl) g2) (containsf_ok w.via 79 _ g.noNode (by have := hw.via; omega) rfl rfl (fun x _ => nonode_ok g x)) rfl ?_
  simp only [go_sem, simprocAttr]
  cases h3 : w.via.any g.noNode with
  | true =>
    rw [h1, h2, h3] at e0
    simp only [go_sem, simprocAttr] at e0 ⊢
    exact sub_out out_sc (by rw [e0])
  | false =>
  simp only [go_sem, simprocAttr]
  refine good_out 4 (outL2 (out_imm rfl) g2) (containsf_ok w.nodes 79 _ g.noNode (by have := hw.nodes; omega) rfl rfl (fun x _ => nonode_ok g x)) rfl ?_
  simp only [go_sem, simprocAttr]
  cases h4 : w.nodes.any g.noNode with
  | true =>
    rw [h1, h2, h3, h4] at e0
    simp only [go_sem, simprocAttr] at e0 ⊢
    exact sub_out out_sc (by rw [e0])
  | false =>
  rw [h1, h2, h3, h4] at e0
  simp only [go_sem, simprocAttr] at e0 ⊢
  refine good_out 4 (outL2 (out_imm rfl) g3) (containsf_ok w.links 80 _ g.noLink (by have := hw.links; omega) rfl rfl (fun x _ => nolink_ok g x)) rfl ?_
  simp only [go_sem, simprocAttr]
  cases h5 : w.links.any g.noLink with
  | true =>
    rw [h5] at e0
    simp only [go_sem, simprocAttr] at e0 ⊢
    exact sub_out out_sc (by rw [e0])
  | false =>
  rw [h5] at e0
  simp only [go_sem, simprocAttr] at e0 ⊢
  refine good_imm (containsf_ok w.cols 81 [] noCol (by have := hw.cols; omega) rfl rfl (fun x _ => nocol_ok x)) rfl ?_
  simp only [go_sem, simprocAttr]
  cases h6 : w.cols.any noCol with
  | true =>
    rw [h6] at e0
    simp only [go_sem, simprocAttr] at e0 ⊢
    exact sub_out out_sc (by rw [e0])
  | false =>
  rw [h6] at e0
  simp only [go_sem, simprocAttr] at e0 ⊢
  refine .intro (fun h7 => ?_) (fun h7 => ?_)
  · simp only [go_sem, simprocAttr, h7] at e0 ⊢
    exact sub_out out_sc (by rw [e0])
  · simp only [go_sem, simprocAttr, h7] at e0 ⊢
    refine .intro (fun h8 => ?_) (fun h8 => ?_)
    · simp only [go_sem, simprocAttr]
      rw [if_pos (by omega)] at e0
      exact sub_out out_sc (by rw [e0])
    · simp only [go_sem, simprocAttr]
      rw [if_neg (by omega)] at e0
      exact sub_out out_sc (by rw [e0])
end Go.Proofs

set_option linter.unusedSimpArgs false
set_option linter.unusedVariables false
namespace Go.Proofs
open Go.Ab

def goneLk (w : Wt) (down : List Bool) (i : Nat) (l : Lk) : Bool := isDown down i || w.links.contains (i : Int) || w.cols.contains l.c || w.nodes.contains l.a || w.nodes.contains l.b
def goneAll (g : Gr) (w : Wt) (down : List Bool) : List Bool := g.ls.mapIdx fun i l => goneLk w down i l
def prunedOf (g : Gr) (w : Wt) (down : List Bool) : List Bool := if rightOf g w = 0 then goneAll g w down else []
theorem goneAll_len (g : Gr) (w : Wt) (down : List Bool) : (goneAll g w down).length = g.ls.length := by simp [goneAll]
/-- The first i are known. -/
def partB (l : List Bool) (i : Nat) : List Bool := l.take i ++ List.replicate (l.length - i) false
theorem partB_len (l : List Bool) (i : Nat) (h : i ≤ l.length) : (partB l i).length = l.length := by simp [partB]; omega
theorem partB_get (l : List Bool) (i : Nat) (h : i < l.length) : (partB l i)[i]? = some false := by
  unfold partB
  have e : (List.take i l).length = i := by simp; omega
  rw [List.getElem?_append_right (by omega), e, List.getElem?_replicate, if_pos (by omega)]
theorem partB_set (l : List Bool) (i : Nat) (b : Bool) (h : l[i]? = some b) : (partB l i).set i b = partB l (i + 1) := by
  obtain ⟨hi, rfl⟩ := List.getElem?_eq_some_iff.1 h
  apply List.ext_getElem?
  intro j
  unfold partB
  rw [List.getElem?_set]
  have e1 : (List.take i l).length = i := by simp; omega
  have e2 : (List.take (i + 1) l).length = i + 1 := by simp; omega
  by_cases hj : i = j
  · subst hj
    rw [if_pos rfl, if_pos (by simp; omega), List.getElem?_append_left (by omega), List.getElem?_take, if_pos (by omega), h]
  · rw [if_neg hj]
    by_cases hlt : j < i
    · rw [List.getElem?_append_left (by omega), List.getElem?_append_left (by omega), List.getElem?_take, List.getElem?_take, if_pos hlt, if_pos (by omega)]
    · rw [List.getElem?_append_right (by omega), List.getElem?_append_right (by omega), e1, e2, List.getElem?_replicate, List.getElem?_replicate]
      by_cases h3 : j < l.length
      · rw [if_pos (by omega), if_pos (by omega)]
      · rw [if_neg (by omega), if_neg (by omega)]
theorem partB_all (l : List Bool) (i : Nat) (h : l.length ≤ i) : partB l i = l := by
  unfold partB
  rw [List.take_of_length_le h, show l.length - i = 0 by omega]
  simp
theorem partB_zero (l : List Bool) : partB l 0 = List.replicate l.length false := by simp [partB]

def DownLoop (g : Gr) (w : Wt) (down : List Bool) (wid oid : Nat) (m : Nat) (fr : Fr) (σ : Store) : Prop :=
  ∃ i : Nat, i ≤ g.ls.length ∧ m = g.ls.length - i ∧ fr = [(2, .lst (bools down)), (4, .ptr wid 0 0 0), (7, .sl oid 0 0 g.ls.length 1), (19, .lst (g.ls.map Lk.row)), (20, .i g.ls.length), (21, .i i)] ∧
    σ.get wid = some (.row 0 false 7 [w.cells]) ∧ σ.get oid = some (.row 0 false 1 (bools (partB (goneAll g w down) i))) ∧ wid ≠ oid

theorem down_want_ok (g : Gr) (w : Wt) (hw : w.Few) (down : List Bool) (hd : down.length ≤ 1000000) (hg : g.ls.length ≤ 1000000) : PGood Try.prog 66 [g.val, w.val, .lst (bools down)] (.lst (bools (prunedOf g w down))) := by
  refine pgood_of_out 3 (good_of_wp isF66 (Nat.le_refl _) ?_)
  unfold ac66
  simp only [go_sem, simprocAttr, Gr.val, Wt.val]
  have kw : known (AVal.agg w.cells) = some w.cells := rfl
  have lw : w.cells.length = 7 := rfl
  have tw : List.take 7 w.cells = w.cells := rfl
  intro gid hgid
  simp only [go_sem, simprocAttr, kw, lw]
  intro wid hwid
  have f1 := fun o => rowAt_fresh (o := o) hwid (j := gid) (ver := 0) (by rw [rowAt_self]; rfl)
  simp only [go_sem, simprocAttr, f1, lw, tw]
  refine good_imm (right_want_ok g w hw) rfl ?_
  simp only [go_sem, simprocAttr]
  by_cases h0 : rightOf g w = 0
  case neg =>
    simp only [go_sem, simprocAttr, h0]
    have e : prunedOf g w down = [] := if_neg h0
    rw [e]
    exact out_nils
  have e : prunedOf g w down = goneAll g w down := if_pos h0
  rw [e]
  have hgl := goneAll_len g w down
  have q1 : (0 : Int) ≤ (g.ls.length : Int) := by omega
  have q2 : (g.ls.length : Int) ≤ 9223372036854775807 := by omega
  have q3 : g.ls.length * 1 ≤ 281474976710656 := by omega
  simp only [go_sem, simprocAttr, h0, f1, q1, q2, q3]
  intro oid hoid
  have f2 := fun o => rowAt_fresh (o := o) hoid (j := gid) (ver := 0) (by rw [f1, rowAt_self]; rfl)
  have f3 := fun o => rowAt_fresh (o := o) hoid (j := wid) (ver := 0) (by rw [rowAt_self]; rfl)
  have hwo : wid ≠ oid := fun e => by rw [← e] at hoid; simp at hoid
  simp only [go_sem, simprocAttr, f1, f2, f3]
  refine loop_rule (DownLoop g w down wid oid) g.ls.length ⟨0, by omega, rfl, rfl, ?_, ?_, hwo⟩ ?_
  · rw [Store.get_set_ne _ _ hwo]
    simp
  · rw [Store.get_set_self, partB_zero, hgl, bools_rep]
  rintro m fr σ ⟨i, h1, rfl, rfl, h2, h3, _⟩
  simp only [go_sem, simprocAttr]
  refine .intro (fun h => ?_) (fun h => ?_)
  · have hx : g.ls[i]? = some g.ls[i] := List.getElem?_eq_getElem (by omega)
    generalize g.ls[i]'(by omega) = l at *
    have hrow : (g.ls.map Lk.row)[i]? = some l.row := by rw [List.getElem?_map, hx]; rfl
    have q0 : (0 : Int) ≤ (i : Int) := by omega
    have hgone : (goneAll g w down)[i]? = some (goneLk w down i l) := by simp [goneAll, List.getElem?_mapIdx, hx]
    have hll : l.row.length = 4 := rfl
    have htl : List.take 4 l.row = l.row := rfl
    have kl : known (AVal.agg l.row) = some l.row := rfl
    have hl0 : l.row[0]? = some (.sc (.int .i64 l.a)) := rfl
    have hl1 : l.row[1]? = some (.sc (.int .i64 l.b)) := rfl
    have hl3 : l.row[3]? = some (.sc (.int .i64 l.c)) := rfl
    have hw5 : w.cells[5]? = some (.lst (ints w.links)) := rfl
    have hw6 : w.cells[6]? = some (.lst (ints w.cols)) := rfl
    have hw4 : w.cells[4]? = some (.lst (ints w.nodes)) := rfl
    simp only [go_sem, simprocAttr, hrow, q0, hll, htl]
    intro lid hlid
    have r1 : ∀ o, Ab.rowAt (σ.set lid o) wid 0 = some (false, 7, [w.cells]) := fun o => by rw [rowAt_fresh hlid (by rw [rowAt_get h2]; rfl), rowAt_get h2]
    have r2 : ∀ o, Ab.rowAt (σ.set lid o) oid 0 = some (false, 1, bools (partB (goneAll g w down) i)) := fun o => by rw [rowAt_fresh hlid (by rw [rowAt_get h3]; rfl), rowAt_get h3]
    have hp := bools_get (partB_get (goneAll g w down) i (by omega))
    have hilt : (i : Int) < (g.ls.length : Int) := by omega
    have hw1 : IntKind.i64.wrap ((i : Int) + 1) = ((i + 1 : Nat) : Int) := by rw [wrap_id (by omega) (by omega)]; rfl
    have close : ∀ b : Bool, b = goneLk w down i l → Back (DownLoop g w down wid oid) (g.ls.length - i) [(2, .lst (bools down)), (4, .ptr wid 0 0 0), (7, .sl oid 0 0 g.ls.length 1), (19, .lst (g.ls.map Lk.row)), (20, .i g.ls.length), (21, .i ((i + 1 : Nat) : Int))]
        ((σ.set lid (.row 0 false 4 [l.row])).set oid (.row 0 false 1 ((bools (partB (goneAll g w down) i)).set i [.sc (.bool b)]))) := by
      rintro b rfl
      refine back_of _ ?_ ⟨i + 1, by omega, rfl, rfl, ?_, ?_, hwo⟩
      · omega
      · rw [Store.get_set_ne _ _ hwo, get_fresh hlid (by rw [h2]; rfl), h2]
      · rw [Store.get_set_self, ← bools_set, partB_set _ _ _ hgone]
    simp only [go_sem, simprocAttr, hll, htl, kl]
    have fin : ∀ b : Bool, b = goneLk w down i l → b = goneLk w down i l := fun _ h => h
    by_cases hlt : (i : Int) < (down.length : Int)
    · have hdx : down[i]? = some down[i] := List.getElem?_eq_getElem (by omega)
      have hdb := bools_get hdx
      have hisd : isDown down i = down[i] := by simp [isDown, hdx]; omega
      generalize down[i]'(by omega) = dv at *
      simp only [go_sem, simprocAttr, hlt, hdb, q0]
      cases dv with
      | true =>
        simp only [go_sem, simprocAttr, r2, hp, q0, hilt, hw1]
        exact close true (by simp [goneLk, hisd])
      | false =>
        simp only [go_sem, simprocAttr, r1, hw5, hw6, hw4]
        refine good_imm (contains_ok w.links i (by have := hw.links; omega)) rfl ?_
        simp only [go_sem, simprocAttr]
        cases c2 : w.links.contains (i : Int) with
        | true =>
          simp only [go_sem, simprocAttr, r2, hp, q0, hilt, hw1]
          exact close true (by simp only [goneLk, hisd, c2, Bool.or_true, Bool.true_or])
        | false =>
        simp only [go_sem, simprocAttr, r1, hw5, hw6, hw4, hl3]
        refine good_imm (contains_ok w.cols l.c (by have := hw.cols; omega)) rfl ?_
        simp only [go_sem, simprocAttr]
        cases c3 : w.cols.contains l.c with
        | true =>
          simp only [go_sem, simprocAttr, r2, hp, q0, hilt, hw1]
          exact close true (by simp only [goneLk, hisd, c2, c3, Bool.or_true, Bool.true_or])
        | false =>
        simp only [go_sem, simprocAttr, r1, hw5, hw6, hw4, hl0]
        refine good_imm (contains_ok w.nodes l.a (by have := hw.nodes; omega)) rfl ?_
        simp only [go_sem, simprocAttr]
        cases c4 : w.nodes.contains l.a with
        | true =>
          simp only [go_sem, simprocAttr, r2, hp, q0, hilt, hw1]
          exact close true (by simp only [goneLk, hisd, c2, c3, c4, Bool.or_true, Bool.true_or])
        | false =>
        simp only [go_sem, simprocAttr, r1, hw5, hw6, hw4, hl1]
        refine good_imm (contains_ok w.nodes l.b (by have := hw.nodes; omega)) rfl ?_
        simp only [go_sem, simprocAttr, r2, hp, q0, hilt, hw1]
        exact close _ (by simp only [goneLk, hisd, c2, c3, c4, Bool.false_or])
    · have hisd : isDown down i = false := by simp [isDown, hlt]
      simp only [go_sem, simprocAttr, hlt, r1, hw5, hw6, hw4]
      refine good_imm (contains_ok w.links i (by have := hw.links; omega)) rfl ?_
      simp only [go_sem, simprocAttr]
      cases c2 : w.links.contains (i : Int) with
      | true =>
        simp only [go_sem, simprocAttr, r2, hp, q0, hilt, hw1]
        exact close true (by simp only [goneLk, hisd, c2, Bool.or_true, Bool.true_or])
      | false =>
      simp only [go_sem, simprocAttr, r1, hw5, hw6, hw4, hl3]
      refine good_imm (contains_ok w.cols l.c (by have := hw.cols; omega)) rfl ?_
      simp only [go_sem, simprocAttr]
      cases c3 : w.cols.contains l.c with
      | true =>
        simp only [go_sem, simprocAttr, r2, hp, q0, hilt, hw1]
        exact close true (by simp only [goneLk, hisd, c2, c3, Bool.or_true, Bool.true_or])
      | false =>
      simp only [go_sem, simprocAttr, r1, hw5, hw6, hw4, hl0]
      refine good_imm (contains_ok w.nodes l.a (by have := hw.nodes; omega)) rfl ?_
      simp only [go_sem, simprocAttr]
      cases c4 : w.nodes.contains l.a with
      | true =>
        simp only [go_sem, simprocAttr, r2, hp, q0, hilt, hw1]
        exact close true (by simp only [goneLk, hisd, c2, c3, c4, Bool.or_true, Bool.true_or])
      | false =>
      simp only [go_sem, simprocAttr, r1, hw5, hw6, hw4, hl1]
      refine good_imm (contains_ok w.nodes l.b (by have := hw.nodes; omega)) rfl ?_
      simp only [go_sem, simprocAttr, r2, hp, q0, hilt, hw1]
      exact close _ (by simp only [goneLk, hisd, c2, c3, c4, Bool.false_or])
  · have ei : i = g.ls.length := by omega
    have r3 := rowAt_get h3
    rw [partB_all _ _ (by rw [hgl]; omega)] at r3
    simp only [go_sem, simprocAttr]
    refine out_sl r3 (by rw [bools_len, hgl]; omega) ?_ (bools_sc _)
    rw [List.drop_zero, List.take_of_length_le (by rw [bools_len, hgl]; omega)]
end Go.Proofs

set_option linter.unusedSimpArgs false
set_option linter.unusedVariables false
namespace Go.Proofs
open Go.Ab

theorem any_take (q : Int → Bool) (l : List Int) (i : Nat) (x : Int) (h : l[i]? = some x) : (l.take (i + 1)).any q = ((l.take i).any q || q x) := by
  rw [List.take_add_one, h]
  simp [List.any_append]

theorem has_ok (xs : List Int) (x0 : Int) (hl : xs.length ≤ 1000000) : PGood Try.prog 75 [.lst (ints xs), .i x0] (.b (xs.contains x0)) := by
  refine pgood_of_out 3 (good_of_wp isF75 (Nat.le_refl _) ?_)
  unfold ac75
  simp only [go_sem, simprocAttr]
  refine loop_rule (fun m fr σ => ∃ (i : Nat), i ≤ xs.length ∧ m = xs.length - i ∧ fr = [(0, .lst (ints xs)), (1, .i x0), (5, .i i)] ∧ xs.contains x0 = (xs.drop i).contains x0) xs.length ⟨0, by omega, rfl, rfl, rfl⟩ ?_
  rintro m fr σ ⟨i, h1, rfl, rfl, h2⟩
  simp only [go_sem, simprocAttr]
  refine .intro (fun h => ?_) (fun h => ?_)
  · have hx : xs[i]? = some xs[i] := List.getElem?_eq_getElem (by omega)
    have hg := ints_get hx
    have hd := drop_of_get hx
    generalize xs[i]'(by omega) = x at *
    have q0 : (0 : Int) ≤ (i : Int) := by omega
    have hw : IntKind.i64.wrap ((i : Int) + 1) = ((i + 1 : Nat) : Int) := by rw [wrap_id (by omega) (by omega)]; rfl
    simp only [go_sem, simprocAttr, hg, q0]
    rw [hd, List.contains_cons] at h2
    refine .intro (fun hc => ?_) (fun hc => ?_)
    · simp only [go_sem, simprocAttr]
      rw [h2, hc]
      simp only [beq_self_eq_true, Bool.true_or]
      exact out_sc
    · simp only [go_sem, simprocAttr, hw]
      rw [show (x0 == x) = false by simpa using fun e => hc e.symm, Bool.false_or] at h2
      exact back_of _ (by omega) ⟨i + 1, by omega, rfl, rfl, h2⟩
  · simp only [go_sem, simprocAttr]
    have e : xs.drop i = [] := List.drop_eq_nil_of_le (by omega)
    rw [h2, e]
    exact out_sc

theorem rright_ok (g : Gr) (w : Wt) (hw : w.Few) : PGood Try.prog 74 [g.val, w.val] (.i (rightOf g w)) := by
  refine pgood_of_out 3 (good_of_wp isF74 (Nat.le_refl _) ?_)
  unfold ac74
  have kw : known (AVal.agg w.cells) = some w.cells := rfl
  have lw : w.cells.length = 7 := rfl
  have hw0 : w.cells[0]? = some (.sc (.int .i64 w.from_)) := rfl
  have hw1 : w.cells[1]? = some (.sc (.int .i64 w.to)) := rfl
  have hw2 : w.cells[2]? = some (.sc (.int .i64 w.bound)) := rfl
  have hw3 : w.cells[3]? = some (.lst (ints w.via)) := rfl
  have hw4 : w.cells[4]? = some (.lst (ints w.nodes)) := rfl
  have hw5 : w.cells[5]? = some (.lst (ints w.links)) := rfl
  have hw6 : w.cells[6]? = some (.lst (ints w.cols)) := rfl
  simp only [go_sem, simprocAttr, Gr.val, Wt.val]
  intro gid hgid
  simp only [go_sem, simprocAttr, kw, lw]
  intro wid hwid
  have f1 := fun o => rowAt_fresh (o := o) hwid (j := gid) (ver := 0) (by rw [rowAt_self]; rfl)
  have hgw : gid ≠ wid := fun e => by rw [← e] at hwid; simp at hwid
  simp only [go_sem, simprocAttr, f1]
  refine good_imm (rcheck_ok g) rfl ?_
  simp only [go_sem, simprocAttr]
  by_cases h0 : g.check.2 = 0
  case neg =>
    simp only [go_sem, simprocAttr, h0]
    exact sub_out out_sc (by unfold rightOf; rw [if_pos h0])
  simp only [go_sem, simprocAttr, h0, f1, hw0, hw1]
  have e0 : rightOf g w = if (g.noNode w.from_ || g.noNode w.to || w.via.any g.noNode || w.nodes.any g.noNode) = true then 4
    else if w.links.any g.noLink = true then 5
    else if (w.cols.any noCol || decide (w.bound < 0)) = true then 1
    else if 4 < w.via.length then 6 else 0 := by unfold rightOf; rw [if_neg (by rw [h0]; decide)]
  refine good_imm (node_ok g.n _ w.from_) rfl ?_
  have nn : ∀ x, (!decide (0 ≤ x ∧ x < g.n)) = g.noNode x := fun x => rfl
  simp only [go_sem, simprocAttr, nn]
  have st : ∀ o : Ab.Obj, True := fun _ => trivial
  have hcells : w.cells = [AVal.sc (.int .i64 w.from_), .sc (.int .i64 w.to), .sc (.int .i64 w.bound), .lst (ints w.via), .lst (ints w.nodes), .lst (ints w.links), .lst (ints w.cols)] := rfl
  have rg0 := (f1 (.row 0 false 7 [w.cells])).trans rowAt_self
  have rw0 : Ab.rowAt ((Store.empty.set gid (.row 0 false 2 [[.sc (.int .i64 g.n), .lst (g.ls.map Lk.row)]])).set wid (.row 0 false 7 [w.cells])) wid 0 = some (false, 7, [w.cells]) := rowAt_self
  generalize ((Store.empty.set gid (.row 0 false 2 [[.sc (.int .i64 g.n), .lst (g.ls.map Lk.row)]])).set wid (.row 0 false 7 [w.cells])) = σ0 at *
  cases h1 : g.noNode w.from_
  case' false =>
    simp only [go_sem, simprocAttr, rg0, rw0, hw1]
    refine good_imm (node_ok g.n _ w.to) rfl ?_
    simp only [go_sem, simprocAttr, nn]
  case' true =>
    simp only [go_sem, simprocAttr]
  all_goals
    refine loop_rule (fun m fr σ => ∃ (i : Nat), i ≤ w.via.length ∧ m = w.via.length - i ∧ fr = [(2, .ptr gid 0 0 0), (3, .ptr wid 0 0 0), (7, .b (g.noNode w.from_ || g.noNode w.to || (w.via.take i).any g.noNode)), (8, .i i)] ∧ σ = σ0) w.via.length ⟨0, by omega, rfl, by simp [h1], rfl⟩ ?_
    rintro m fr σ ⟨i, k1, rfl, rfl, rfl⟩
    simp only [go_sem, simprocAttr, rw0, hw3]
    refine .intro (fun h => ?_) (fun h => ?_)
    · have hx : w.via[i]? = some w.via[i] := List.getElem?_eq_getElem (by omega)
      have hg := ints_get hx
      generalize w.via[i]'(by omega) = x at *
      have q0 : (0 : Int) ≤ (i : Int) := by omega
      have hwr : IntKind.i64.wrap ((i : Int) + 1) = ((i + 1 : Nat) : Int) := by have := hw.via; rw [wrap_id (by omega) (by omega)]; rfl
      have hat := any_take g.noNode w.via i x hx
      simp only [go_sem, simprocAttr]
      unfold op74_39
      cases hb : (g.noNode w.from_ || g.noNode w.to || (w.via.take i).any g.noNode)
      · simp only [go_sem, simprocAttr, rg0, rw0, hw3, hg, q0]
        refine goodD_imm (node_ok g.n _ x) rfl ?_
        simp only [go_sem, simprocAttr, nn, hwr]
        refine back_of _ (by omega) ⟨i + 1, by omega, rfl, ?_, rfl⟩
        rw [hat, ← Bool.or_assoc, hb, Bool.false_or]
      · simp only [go_sem, simprocAttr, hwr]
        refine back_of _ (by omega) ⟨i + 1, by omega, rfl, ?_, rfl⟩
        rw [hat, ← Bool.or_assoc, hb, Bool.true_or]
    have ei : i = w.via.length := by omega
    rw [ei, List.take_length]
    simp only [go_sem, simprocAttr]
    refine loop_rule (fun m fr σ' => ∃ (i : Nat), i ≤ w.nodes.length ∧ m = w.nodes.length - i ∧ fr = [(2, .ptr gid 0 0 0), (3, .ptr wid 0 0 0), (7, .b (g.noNode w.from_ || g.noNode w.to || w.via.any g.noNode || (w.nodes.take i).any g.noNode)), (9, .i i)] ∧ σ' = σ) w.nodes.length ⟨0, by omega, rfl, by simp, rfl⟩ ?_
    clear k1 h ei i
    rintro m fr σ ⟨i, k1, rfl, rfl, rfl⟩
    simp only [go_sem, simprocAttr, rw0, hw4]
    refine .intro (fun h => ?_) (fun h => ?_)
    · have hx : w.nodes[i]? = some w.nodes[i] := List.getElem?_eq_getElem (by omega)
      have hg := ints_get hx
      generalize w.nodes[i]'(by omega) = x at *
      have q0 : (0 : Int) ≤ (i : Int) := by omega
      have hwr : IntKind.i64.wrap ((i : Int) + 1) = ((i + 1 : Nat) : Int) := by have := hw.nodes; rw [wrap_id (by omega) (by omega)]; rfl
      have hat := any_take g.noNode w.nodes i x hx
      simp only [go_sem, simprocAttr]
      unfold op74_57
      cases hb : (g.noNode w.from_ || g.noNode w.to || w.via.any g.noNode || (w.nodes.take i).any g.noNode)
      · simp only [go_sem, simprocAttr, rg0, rw0, hw4, hg, q0]
        refine goodD_imm (node_ok g.n _ x) rfl ?_
        simp only [go_sem, simprocAttr, nn, hwr]
        refine back_of _ (by omega) ⟨i + 1, by omega, rfl, ?_, rfl⟩
        rw [hat, ← Bool.or_assoc, hb, Bool.false_or]
      · simp only [go_sem, simprocAttr, hwr]
        refine back_of _ (by omega) ⟨i + 1, by omega, rfl, ?_, rfl⟩
        rw [hat, ← Bool.or_assoc, hb, Bool.true_or]
    have ei : i = w.nodes.length := by omega
    rw [ei, List.take_length]
    cases hb : (g.noNode w.from_ || g.noNode w.to || w.via.any g.noNode || w.nodes.any g.noNode)
    case' true =>
      simp only [go_sem, simprocAttr]
      exact sub_out out_sc (by rw [e0, if_pos hb])
    rw [if_neg (by rw [hb]; decide)] at e0
    simp only [go_sem, simprocAttr]
    refine loop_rule (fun m fr σ' => ∃ (i : Nat), i ≤ w.links.length ∧ m = w.links.length - i ∧ fr = [(2, .ptr gid 0 0 0), (3, .ptr wid 0 0 0), (10, .i i)] ∧ σ' = σ ∧ (w.links.take i).any g.noLink = false) w.links.length ⟨0, by omega, rfl, rfl, rfl, by simp⟩ ?_
    clear k1 h ei i
    rintro m fr σ ⟨i, k1, rfl, rfl, rfl, k2⟩
    simp only [go_sem, simprocAttr, rw0, hw5]
    refine .intro (fun h => ?_) (fun h => ?_)
    · have hx : w.links[i]? = some w.links[i] := List.getElem?_eq_getElem (by omega)
      have hg := ints_get hx
      generalize w.links[i]'(by omega) = x at *
      have q0 : (0 : Int) ≤ (i : Int) := by omega
      have hwr : IntKind.i64.wrap ((i : Int) + 1) = ((i + 1 : Nat) : Int) := by have := hw.links; rw [wrap_id (by omega) (by omega)]; rfl
      have hat := any_take g.noLink w.links i x hx
      have hbad : g.noLink x = true → w.links.any g.noLink = true := fun e => List.any_eq_true.2 ⟨x, List.mem_of_getElem? hx, e⟩
      simp only [go_sem, simprocAttr]
      unfold op74_76
      simp only [go_sem, simprocAttr, rw0, hw5, hg, q0]
      refine .intro (fun h3 => ?_) (fun h3 => ?_)
      · simp only [go_sem, simprocAttr, h3, rw0, rg0, hw5, hg, q0]
        have : g.noLink x = true := by simp [Gr.noLink, h3]
        exact sub_out out_sc (by rw [e0, if_pos (hbad this)])
      · simp only [go_sem, simprocAttr, h3, rw0, rg0, hw5, hg, q0]
        refine .intro (fun h4 => ?_) (fun h4 => ?_)
        · simp only [go_sem, simprocAttr]
          have : g.noLink x = true := by simp [Gr.noLink, h4]
          exact sub_out out_sc (by rw [e0, if_pos (hbad this)])
        · simp only [go_sem, simprocAttr, hwr]
          have : g.noLink x = false := by simp [Gr.noLink, h3]; omega
          exact back_of _ (by omega) ⟨i + 1, by omega, rfl, rfl, rfl, by rw [hat, k2, this]; rfl⟩
    have ei : i = w.links.length := by omega
    rw [ei, List.take_length] at k2
    rw [if_neg (by rw [k2]; decide)] at e0
    simp only [go_sem, simprocAttr]
    refine loop_rule (fun m fr σ' => ∃ (i : Nat), i ≤ w.cols.length ∧ m = w.cols.length - i ∧ fr = [(3, .ptr wid 0 0 0), (11, .i i)] ∧ σ' = σ ∧ (w.cols.take i).any noCol = false) w.cols.length ⟨0, by omega, rfl, rfl, rfl, by simp⟩ ?_
    clear k1 h ei i k2
    rintro m fr σ ⟨i, k1, rfl, rfl, rfl, k2⟩
    simp only [go_sem, simprocAttr, rw0, hw6]
    refine .intro (fun h => ?_) (fun h => ?_)
    · have hx : w.cols[i]? = some w.cols[i] := List.getElem?_eq_getElem (by omega)
      have hg := ints_get hx
      generalize w.cols[i]'(by omega) = x at *
      have q0 : (0 : Int) ≤ (i : Int) := by omega
      have hwr : IntKind.i64.wrap ((i : Int) + 1) = ((i + 1 : Nat) : Int) := by have := hw.cols; rw [wrap_id (by omega) (by omega)]; rfl
      have hat := any_take noCol w.cols i x hx
      have hbad : noCol x = true → w.cols.any noCol = true := fun e => List.any_eq_true.2 ⟨x, List.mem_of_getElem? hx, e⟩
      simp only [go_sem, simprocAttr, rw0, hw6, hg, q0]
      refine .intro (fun h3 => ?_) (fun h3 => ?_)
      · simp only [go_sem, simprocAttr, h3, rw0, hw6, hg, q0]
        have : noCol x = true := by simp [noCol, h3]
        exact sub_out out_sc (by rw [e0, if_pos (by rw [hbad this]; rfl)])
      · simp only [go_sem, simprocAttr, h3, rw0, hw6, hg, q0]
        refine .intro (fun h4 => ?_) (fun h4 => ?_)
        · simp only [go_sem, simprocAttr]
          have : noCol x = true := by simp [noCol, h4]
          exact sub_out out_sc (by rw [e0, if_pos (by rw [hbad this]; rfl)])
        · simp only [go_sem, simprocAttr, hwr]
          have : noCol x = false := by simp [noCol, h3]; omega
          exact back_of _ (by omega) ⟨i + 1, by omega, rfl, rfl, rfl, by rw [hat, k2, this]; rfl⟩
    have ei : i = w.cols.length := by omega
    rw [ei, List.take_length] at k2
    rw [k2, Bool.false_or] at e0
    simp only [go_sem, simprocAttr, rw0, hw2]
    refine .intro (fun h7 => ?_) (fun h7 => ?_)
    · simp only [go_sem, simprocAttr]
      exact sub_out out_sc (by rw [e0, if_pos (by simpa using h7)])
    · simp only [go_sem, simprocAttr, rw0, hw3]
      rw [if_neg (by simpa using h7)] at e0
      refine .intro (fun h8 => ?_) (fun h8 => ?_)
      · simp only [go_sem, simprocAttr]
        rw [if_pos (by omega)] at e0
        exact sub_out out_sc (by rw [e0])
      · simp only [go_sem, simprocAttr]
        rw [if_neg (by omega)] at e0
        exact sub_out out_sc (by rw [e0])
end Go.Proofs

set_option linter.unusedSimpArgs false
set_option linter.unusedVariables false
namespace Go.Proofs
open Go.Ab

/-- The points of a want. -/
def Wt.pts (w : Wt) : List Int := w.from_ :: (w.via ++ [w.to])
theorem Wt.pts_len (w : Wt) : w.pts.length = w.via.length + 2 := by simp [Wt.pts]
/-- A state: a node, and how many points were come to. -/
structure St where
  at_ : Int
  n : Nat
  deriving DecidableEq
def St.row (s : St) : List AVal := [.sc (.int .i64 s.at_), .sc (.int .i64 s.n)]
def St.val (s : St) : AVal := .agg s.row

def comeF (p : List Int) (node : Int) : Nat → Nat → Nat
  | 0, n => n
  | f + 1, n => if p[n + 1]? = some node then comeF p node f (n + 1) else n
def comeN (p : List Int) (node : Int) (n : Nat) : Nat := comeF p node (p.length - n) n
theorem comeN_eq (p : List Int) (node : Int) (n : Nat) : comeN p node n = if p[n + 1]? = some node then comeN p node (n + 1) else n := by
  unfold comeN
  by_cases h : p[n + 1]? = some node
  · rw [if_pos h]
    have := (List.getElem?_eq_some_iff.1 h).1
    rw [show p.length - n = (p.length - (n + 1)) + 1 by omega, comeF, if_pos h]
  · rw [if_neg h]
    cases hf : p.length - n with
    | zero => rfl
    | succ f => rw [comeF, if_neg h]
def come (p : List Int) (node : Int) (n : Nat) : St := ⟨node, comeN p node n⟩
def Wt.start (w : Wt) : St := come w.pts w.from_ 0
def Wt.goal (w : Wt) : St := ⟨w.to, w.via.length + 1⟩
theorem comeN_le (p : List Int) (node : Int) (n : Nat) (h : n < p.length) : comeN p node n < p.length := by
  have key : ∀ (f n : Nat), n < p.length → comeF p node f n < p.length := by
    intro f
    induction f with
    | zero => intro n h; exact h
    | succ f ih =>
      intro n h
      unfold comeF
      split
      · rename_i h2
        exact ih _ (List.getElem?_eq_some_iff.1 h2).1
      · exact h
  exact key _ _ h
theorem le_comeN (p : List Int) (node : Int) (n : Nat) : n ≤ comeN p node n := by
  have key : ∀ (f n : Nat), n ≤ comeF p node f n := by
    intro f
    induction f with
    | zero => intro n; exact Nat.le_refl _
    | succ f ih =>
      intro n
      unfold comeF
      split
      · exact Nat.le_trans (Nat.le_succ _) (ih _)
      · exact Nat.le_refl _
  exact key _ _

theorem points_ok (w : Wt) (hw : w.Few) : PGood Try.prog 43 [w.val] (.lst (ints w.pts)) := by
  refine pgood_of_out 3 (good_of_wp isF43 (Nat.le_refl _) ?_)
  unfold ac43
  have hv := hw.via
  simp only [go_sem, simprocAttr, Wt.val, Wt.cells]
  intro wid hwid
  simp only [go_sem, simprocAttr]
  intro id hid
  have f1 := fun o => rowAt_fresh (o := o) hid (j := wid) (ver := 0) (by rw [rowAt_self]; rfl)
  have a0 : Acc _ 1 (.sl id 0 0 1 1) [[.sc (.int .i64 w.from_)]] [wid] := acc_new (sz := 1) (rows := [[.sc (.int .i64 w.from_)]]) (others := [wid]) (alive_cons (Store.get_set_self _ wid (.row 0 false 7 [w.cells])) alive_nil) hid
  simp only [Wt.cells] at a0
  simp only [go_sem, simprocAttr, f1, ints_all]
  refine acc_append a0 (by simp only [ints_len, List.length_cons, List.length_nil]; omega) (by simp only [ints_len, List.length_cons, List.length_nil]; omega) fun v1 σ1 a1 e1 => ?_
  have g1 : σ1.get wid = _ := (e1 wid (by simp)).trans (get_fresh hid (by simp))
  rw [Store.get_set_self] at g1
  have r1 := rowAt_get g1
  simp only [go_sem, simprocAttr, r1]
  intro id2 hid2
  simp only [go_sem, simprocAttr]
  refine acc_append (a1.fresh hid2 _) (by simp only [List.length_append, ints_len, List.length_cons, List.length_nil]; omega) (by simp only [List.length_append, ints_len, List.length_cons, List.length_nil]; omega) fun v2 σ2 a2 e2 => ?_
  simp only [go_sem, simprocAttr]
  have e : ([[AVal.sc (.int .i64 w.from_)]] ++ ints w.via ++ [[.sc (.int .i64 w.to)]]) = ints w.pts := by simp [ints, Wt.pts]
  rw [show (([[AVal.sc (.int .i64 w.from_)]] ++ ints w.via) ++ [[.sc (.int .i64 w.to)]]) = ints w.pts from e] at a2
  exact acc_out a2 (ints_sc _)

theorem come_ok (p : List Int) (node : Int) (n : Nat) (hp : p.length ≤ 1000000) (hn : n ≤ 1000000) : PGood Try.prog 44 [.lst (ints p), .i node, .i n] (come p node n).val := by
  refine pgood_of_out 3 (good_of_wp isF44 (Nat.le_refl _) ?_)
  unfold ac44
  simp only [go_sem, simprocAttr]
  intro id hid
  simp only [go_sem, simprocAttr]
  refine loop_rule (fun m fr σ => ∃ (i : Nat), i ≤ 1000000 ∧ m = p.length - i ∧ fr = [(0, .lst (ints p)), (1, .i node), (2, .i i), (6, .ptr id 0 0 0)] ∧ Ab.rowAt σ id 0 = some (false, 2, [[.sc (.int .i64 0), .sc (.int .i64 0)]]) ∧ comeN p node n = comeN p node i) (p.length - n) ⟨n, by omega, rfl, rfl, rowAt_self, rfl⟩ ?_
  rintro m fr σ ⟨i, h1, rfl, rfl, h2, h3⟩
  have hwr : IntKind.i64.wrap ((i : Int) + 1) = ((i + 1 : Nat) : Int) := by rw [wrap_id (by omega) (by omega)]; rfl
  have q0 : (0 : Int) ≤ ((i + 1 : Nat) : Int) := by omega
  rw [comeN_eq p node i] at h3
  simp only [go_sem, simprocAttr, hwr]
  have done : comeN p node n = i → Out 3 (σ.set id (.row 0 false 2 [[.sc (.int .i64 node), .sc (.int .i64 i)]])) (.agg [.sc (.int .i64 node), .sc (.int .i64 i)]) (come p node n).val := fun h => by
    unfold come
    rw [h]
    exact out_imm rfl
  refine .intro (fun h => ?_) (fun h => ?_)
  · have hx : p[i + 1]? = some p[i + 1] := List.getElem?_eq_getElem (by omega)
    have hg := ints_get hx
    generalize p[i + 1]'(by omega) = x at *
    simp only [go_sem, simprocAttr, h, hwr, hg, q0]
    refine .intro (fun hc => ?_) (fun hc => ?_)
    · simp only [go_sem, simprocAttr, hwr]
      rw [hx, if_pos (by rw [hc])] at h3
      refine back_of _ ?_ ⟨i + 1, by omega, rfl, rfl, h2, h3⟩
      omega
    · simp only [go_sem, simprocAttr, h2]
      rw [hx, if_neg (fun e => hc (Option.some.inj e))] at h3
      exact done h3
  · simp only [go_sem, simprocAttr, h, h2]
    rw [List.getElem?_eq_none (by omega), if_neg (by simp)] at h3
    exact done h3

theorem start_ok (w : Wt) (hw : w.Few) : PGood Try.prog 23 [w.val] w.start.val := by
  refine pgood_of_out 3 (good_of_wp isF23 (Nat.le_refl _) ?_)
  unfold ac23
  have kw : known (AVal.agg w.cells) = some w.cells := rfl
  have lw : w.cells.length = 7 := rfl
  have tw : List.take 7 w.cells = w.cells := rfl
  have hw0 : w.cells[0]? = some (.sc (.int .i64 w.from_)) := rfl
  have hv := hw.via
  simp only [go_sem, simprocAttr, Wt.val, kw, lw]
  intro wid hwid
  simp only [go_sem, simprocAttr]
  intro sid hsid
  have f1 := fun o => rowAt_fresh (o := o) hsid (j := wid) (ver := 0) (by rw [rowAt_self]; rfl)
  simp only [go_sem, simprocAttr]
  unfold op23_3
  simp only [go_sem, simprocAttr, f1, lw, tw]
  refine goodD_imm (points_ok w hw) rfl ?_
  simp only [go_sem, simprocAttr, f1, lw, tw, hw0]
  refine goodD_imm (come_ok w.pts w.from_ 0 (by rw [w.pts_len]; omega) (by omega)) rfl ?_
  have ks : known (come w.pts w.from_ 0).val = some (come w.pts w.from_ 0).row := rfl
  have ls : (come w.pts w.from_ 0).row.length = 2 := rfl
  have ts : List.take 2 (come w.pts w.from_ 0).row = (come w.pts w.from_ 0).row := rfl
  simp only [go_sem, simprocAttr, ks, ls, ts]
  exact out_imm rfl

theorem goal_ok (w : Wt) (hw : w.Few) : PGood Try.prog 22 [w.val] w.goal.val := by
  refine pgood_of_out 3 (good_of_wp isF22 (Nat.le_refl _) ?_)
  unfold ac22
  have kw : known (AVal.agg w.cells) = some w.cells := rfl
  have lw : w.cells.length = 7 := rfl
  have tw : List.take 7 w.cells = w.cells := rfl
  have hw1 : w.cells[1]? = some (.sc (.int .i64 w.to)) := rfl
  have hv := hw.via
  simp only [go_sem, simprocAttr, Wt.val, kw, lw]
  intro wid hwid
  simp only [go_sem, simprocAttr]
  intro sid hsid
  have f1 := fun o => rowAt_fresh (o := o) hsid (j := wid) (ver := 0) (by rw [rowAt_self]; rfl)
  simp only [go_sem, simprocAttr]
  unfold op22_3
  simp only [go_sem, simprocAttr, f1, lw, tw, hw1]
  refine goodD_imm (points_ok w hw) rfl ?_
  have hwr : IntKind.i64.wrap ((w.pts.length : Int) - 1) = ((w.via.length + 1 : Nat) : Int) := by rw [w.pts_len, wrap_id (by omega) (by omega)]; omega
  simp only [go_sem, simprocAttr, hwr]
  exact out_imm rfl

theorem rgoal_ok (w : Wt) (hw : w.Few) : PGood Try.prog 33 [w.val] w.goal.val := by
  refine pgood_of_out 3 (good_of_wp isF33 (Nat.le_refl _) ?_)
  unfold ac33
  have kw : known (AVal.agg w.cells) = some w.cells := rfl
  have lw : w.cells.length = 7 := rfl
  have hw1 : w.cells[1]? = some (.sc (.int .i64 w.to)) := rfl
  have hw3 : w.cells[3]? = some (.lst (ints w.via)) := rfl
  have hv := hw.via
  simp only [go_sem, simprocAttr, Wt.val, kw, lw]
  intro wid hwid
  simp only [go_sem, simprocAttr]
  intro sid hsid
  have f1 := fun o => rowAt_fresh (o := o) hsid (j := wid) (ver := 0) (by rw [rowAt_self]; rfl)
  have hwr : IntKind.i64.wrap ((w.via.length : Int) + 1) = ((w.via.length + 1 : Nat) : Int) := by rw [wrap_id (by omega) (by omega)]; omega
  simp only [go_sem, simprocAttr, f1, lw, hw1, hw3, hwr]
  exact out_imm rfl

theorem rpoints_ok (w : Wt) (hw : w.Few) : PGood Try.prog 55 [w.val] (.lst (ints w.pts)) := by
  refine pgood_of_out 3 (good_of_wp isF55 (Nat.le_refl _) ?_)
  unfold ac55
  have hv := hw.via
  have e : ([[AVal.sc (.int .i64 w.from_)]] ++ ints w.via ++ [[.sc (.int .i64 w.to)]]) = ints w.pts := by simp [ints, Wt.pts]
  simp only [go_sem, simprocAttr, Wt.val, Wt.cells]
  intro wid hwid
  simp only [go_sem, simprocAttr]
  refine wp_tree (.split 5 7 (.trans 5 7 8 (.leaf [0, 1, 2, 3, 4, 5, 6, 7, 8, 9, 10])) (.split 5 8 (.leaf [0, 1, 2, 3, 4, 6, 7, 5, 8, 9, 10]) (.leaf [0, 1, 2, 3, 4, 6, 7, 8, 5, 9, 10]))) (by kernel_rfl) (by kernel_rfl) ?_
  have fresh0 : ∀ (id : Nat), (Store.empty.set wid (.row 0 false 7 [w.cells])).get id = none → Acc ((Store.empty.set wid (.row 0 false 7 [w.cells])).set id (.row 0 false 1 [[.sc (.int .i64 w.from_)]])) 1 (.sl id 0 0 1 1) [[.sc (.int .i64 w.from_)]] [wid] := fun id hid => acc_new (sz := 1) (rows := [[.sc (.int .i64 w.from_)]]) (others := [wid]) (alive_cons (Store.get_set_self _ wid (.row 0 false 7 [w.cells])) alive_nil) hid
  simp only [Wt.cells] at fresh0
  simp only [wpTree_split, wpTree_leaf, wpTree_trans]
  refine ⟨?_, ?_, ?_⟩
  · unfold op55_3
    simp only [go_sem, simprocAttr, pickO, List.filterMap_cons, List.filterMap_nil]
    intro id hid
    have f1 := fun o => rowAt_fresh (o := o) hid (j := wid) (ver := 0) (by rw [rowAt_self]; rfl)
    have a0 := fresh0 id hid
    simp only [go_sem, simprocAttr, f1, ints_all, resD_append]
    refine acc_append a0 (by simp only [ints_len, List.length_cons, List.length_nil]; omega) (by simp only [ints_len, List.length_cons, List.length_nil]; omega) fun v1 σ1 a1 e1 => ?_
    have g1 : σ1.get wid = _ := (e1 wid (by simp)).trans (get_fresh hid (by simp))
    rw [Store.get_set_self] at g1
    have r1 := rowAt_get g1
    simp only [go_sem, simprocAttr, r1]
    intro id2 hid2
    simp only [go_sem, simprocAttr, resD_append]
    refine acc_append (a1.fresh hid2 _) (by simp only [List.length_append, ints_len, List.length_cons, List.length_nil]; omega) (by simp only [List.length_append, ints_len, List.length_cons, List.length_nil]; omega) fun v2 σ2 a2 e2 => ?_
    simp only [go_sem, simprocAttr]
    rw [e] at a2
    exact acc_out a2 (ints_sc _)
  · unfold op55_3
    simp only [go_sem, simprocAttr, pickO, List.filterMap_cons, List.filterMap_nil]
    intro id hid
    have f1 := fun o => rowAt_fresh (o := o) hid (j := wid) (ver := 0) (by rw [rowAt_self]; rfl)
    have a0 := fresh0 id hid
    simp only [go_sem, simprocAttr, f1, ints_all, resD_append]
    refine acc_append a0 (by simp only [ints_len, List.length_cons, List.length_nil]; omega) (by simp only [ints_len, List.length_cons, List.length_nil]; omega) fun v1 σ1 a1 e1 => ?_
    simp only [go_sem, simprocAttr]
    intro id2 hid2
    simp only [go_sem, simprocAttr, resD_append]
    refine acc_append (a1.fresh hid2 _) (by simp only [List.length_append, ints_len, List.length_cons, List.length_nil]; omega) (by simp only [List.length_append, ints_len, List.length_cons, List.length_nil]; omega) fun v2 σ2 a2 e2 => ?_
    simp only [go_sem, simprocAttr]
    rw [e] at a2
    exact acc_out a2 (ints_sc _)
  · unfold op55_3
    simp only [go_sem, simprocAttr, pickO, List.filterMap_cons, List.filterMap_nil]
    intro id hid
    have f1 := fun o => rowAt_fresh (o := o) hid (j := wid) (ver := 0) (by rw [rowAt_self]; rfl)
    have a0 := fresh0 id hid
    simp only [go_sem, simprocAttr, f1]
    intro id2 hid2
    have f2 := fun o => rowAt_fresh (o := o) hid2 (j := wid) (ver := 0) (by rw [f1, rowAt_self]; rfl)
    have a00 := (a0.fresh hid2 (.row 0 false 1 [[.sc (.int .i64 w.to)]]))
    simp only [go_sem, simprocAttr, ints_all, resD_append]
    refine acc_append a00 (by simp only [ints_len, List.length_cons, List.length_nil]; omega) (by simp only [ints_len, List.length_cons, List.length_nil]; omega) fun v1 σ1 a1 e1 => ?_
    have g1 : σ1.get id2 = _ := e1 id2 (by simp)
    rw [Store.get_set_self] at g1
    have r1 := rowAt_get g1
    simp only [go_sem, simprocAttr, r1, resD_append]
    refine acc_append a1 (by simp only [List.length_append, ints_len, List.length_cons, List.length_nil]; omega) (by simp only [List.length_append, ints_len, List.length_cons, List.length_nil]; omega) fun v2 σ2 a2 e2 => ?_
    simp only [go_sem, simprocAttr]
    rw [e] at a2
    exact acc_out a2 (ints_sc _)
end Go.Proofs

set_option linter.unusedVariables false
namespace Go.Proofs
/-! ### Distances are the same both ways -/
def bak (k : Int) : Int := if k % 2 = 1 then k - 1 else k + 1
theorem bak_div {k : Int} (h : 0 ≤ k) : bak k / 2 = k / 2 := by unfold bak; split <;> omega
theorem bak_mod {k : Int} (h : 0 ≤ k) : (bak k % 2 = 1 ↔ ¬ k % 2 = 1) ∧ 0 ≤ bak k := by unfold bak; split <;> omega
theorem use_bak {g : Gr} {down : List Bool} {k : Int} (h : Use g down k) : Use g down (bak k) := by
  obtain ⟨h0, h1, h2⟩ := h
  have hd := bak_div h0
  have hm := bak_mod h0
  refine ⟨hm.2, by omega, ?_⟩
  unfold isUp at h2 ⊢
  rw [hd]
  exact h2
theorem ends_bak {g : Gr} {k : Int} (h0 : 0 ≤ k) (h1 : k < 2 * (g.ls.length : Int)) : (g.ends (bak k)).1 = (g.ends k).2.1 ∧ (g.ends (bak k)).2.1 = (g.ends k).1 := by
  have hd := bak_div h0
  have hm := bak_mod h0
  unfold Gr.ends
  rw [hd, if_neg (by omega), if_neg (by omega)]
  cases hl : g.ls[(k / 2).toNat]? with
  | none =>
    exfalso
    rw [List.getElem?_eq_none_iff] at hl
    omega
  | some l =>
    simp only
    by_cases h : k % 2 = 1
    · rw [if_pos h, if_neg (fun e => hm.1.1 e h)]; exact ⟨rfl, rfl⟩
    · rw [if_neg h, if_pos (hm.1.2 h)]; exact ⟨rfl, rfl⟩
theorem metric_bak {g : Gr} {k : Int} (h0 : 0 ≤ k) : g.metric (bak k) = g.metric k := by
  unfold Gr.metric; rw [bak_div h0]

theorem dist_tri {g : Gr} (hg : g.Ok) {down : List Bool} {a b : Int} {d e : List Int} (hd : IsDist g down a d) (he : IsDist g down b e) :
    ∀ (N : Nat) (v : Int), 0 ≤ v → v < g.n → 0 ≤ at0 d v → at0 d v ≤ N → 0 ≤ at0 e v → 0 ≤ at0 e a ∧ at0 e a ≤ at0 e v + at0 d v := by
  intro N
  induction N using Nat.strongRecOn with
  | _ N ih =>
    intro v v0 v1 h0 hN hv
    rcases hd.reach v v0 v1 h0 with ⟨rfl, h2⟩ | ⟨k, hk, hb, ha, hdv⟩
    · rw [h2]; omega
    · obtain ⟨e1, e2, e3, e4⟩ := g.ends_of hg hk.1 hk.2.1
      obtain ⟨m1, m2⟩ := g.metric_of hg hk.1 hk.2.1
      obtain ⟨b1, b2⟩ := ends_bak hk.1 hk.2.1
      have c := he.closed (bak k) (use_bak hk) (by rw [b1, hb]; exact hv)
      rw [b1, b2, metric_bak hk.1, hb] at c
      have := ih (at0 d (g.ends k).1).toNat (by omega) (g.ends k).1 e1.1 e1.2 ha (by omega) c.1
      omega

theorem dist_sym {g : Gr} (hg : g.Ok) {down : List Bool} {a b : Int} (ha : 0 ≤ a ∧ a < g.n) (hb : 0 ≤ b ∧ b < g.n) : at0 (spfFrom g down a) b = at0 (spfFrom g down b) a := by
  have da := spfFrom_dist hg (down := down) ha
  have db := spfFrom_dist hg (down := down) hb
  have na := da.neg b hb.1 hb.2
  have nb := db.neg a ha.1 ha.2
  by_cases p : 0 ≤ at0 (spfFrom g down a) b
  · have t := dist_tri hg da db (at0 (spfFrom g down a) b).toNat b hb.1 hb.2 p (by omega) (by rw [db.src]; omega)
    rw [db.src] at t
    have t2 := dist_tri hg db da (at0 (spfFrom g down b) a).toNat a ha.1 ha.2 t.1 (by omega) (by rw [da.src]; omega)
    rw [da.src] at t2
    omega
  · by_cases q : 0 ≤ at0 (spfFrom g down b) a
    · have t := dist_tri hg db da (at0 (spfFrom g down b) a).toNat a ha.1 ha.2 q (by omega) (by rw [da.src]; omega)
      omega
    · omega
end Go.Proofs

set_option linter.unusedSimpArgs false
set_option linter.unusedVariables false
namespace Go.Proofs
open Go.Ab

def PrunLoop (g : Gr) (w : Wt) (down : List Bool) (gid wid oid : Nat) (m : Nat) (fr : Fr) (σ : Store) : Prop :=
  ∃ i : Nat, i ≤ g.ls.length ∧ m = g.ls.length - i ∧ fr = [(2, .lst (bools down)), (3, .ptr gid 0 0 0), (4, .ptr wid 0 0 0), (7, .sl oid 0 0 g.ls.length 1), (8, .i i)] ∧
    σ.get wid = some (.row 0 false 7 [w.cells]) ∧ σ.get gid = some (.row 0 false 2 [[.sc (.int .i64 g.n), .lst (g.ls.map Lk.row)]]) ∧ σ.get oid = some (.row 0 false 1 (bools (partB (goneAll g w down) i))) ∧ wid ≠ oid ∧ gid ≠ oid

theorem pruned_ok (g : Gr) (w : Wt) (hw : w.Few) (down : List Bool) (hd : down.length ≤ 1000000) (hg : g.ls.length ≤ 1000000) : PGood Try.prog 56 [g.val, w.val, .lst (bools down)] (.lst (bools (prunedOf g w down))) := by
  refine pgood_of_out 3 (good_of_wp isF56 (Nat.le_refl _) ?_)
  unfold ac56
  simp only [go_sem, simprocAttr, Gr.val, Wt.val]
  have kw : known (AVal.agg w.cells) = some w.cells := rfl
  have lw : w.cells.length = 7 := rfl
  have tw : List.take 7 w.cells = w.cells := rfl
  intro gid hgid
  simp only [go_sem, simprocAttr, kw, lw]
  intro wid hwid
  have f1 := fun o => rowAt_fresh (o := o) hwid (j := gid) (ver := 0) (by rw [rowAt_self]; rfl)
  have hgw : gid ≠ wid := fun e => by rw [← e] at hwid; simp at hwid
  simp only [go_sem, simprocAttr, f1, lw, tw]
  refine good_imm (rright_ok g w hw) rfl ?_
  simp only [go_sem, simprocAttr]
  by_cases h0 : rightOf g w = 0
  case neg =>
    simp only [go_sem, simprocAttr, h0]
    have e : prunedOf g w down = [] := if_neg h0
    rw [e]
    exact out_nils
  have e : prunedOf g w down = goneAll g w down := if_pos h0
  rw [e]
  have hgl := goneAll_len g w down
  have q1 : (0 : Int) ≤ (g.ls.length : Int) := by omega
  have q2 : (g.ls.length : Int) ≤ 9223372036854775807 := by omega
  have q3 : g.ls.length * 1 ≤ 281474976710656 := by omega
  simp only [go_sem, simprocAttr, h0, f1, q1, q2, q3]
  intro oid hoid
  have hwo : wid ≠ oid := fun e => by rw [← e] at hoid; simp at hoid
  have hgo : gid ≠ oid := fun e => by rw [← e] at hoid; rw [Store.get_set_ne _ _ hgw] at hoid; simp at hoid
  simp only [go_sem, simprocAttr]
  refine loop_rule (PrunLoop g w down gid wid oid) g.ls.length ⟨0, by omega, rfl, rfl, ?_, ?_, ?_, hwo, hgo⟩ ?_
  · rw [Store.get_set_ne _ _ hwo]
    simp
  · rw [Store.get_set_ne _ _ hgo, Store.get_set_ne _ _ hgw]
    simp
  · rw [Store.get_set_self, partB_zero, hgl, bools_rep]
  rintro m fr σ ⟨i, h1, rfl, rfl, h2, h4, h3, _, _⟩
  have rg := rowAt_get h4
  simp only [go_sem, simprocAttr, rg]
  refine .intro (fun h => ?_) (fun h => ?_)
  · have hx : g.ls[i]? = some g.ls[i] := List.getElem?_eq_getElem (by omega)
    generalize g.ls[i]'(by omega) = l at *
    have hrow : (g.ls.map Lk.row)[i]? = some l.row := by rw [List.getElem?_map, hx]; rfl
    have q0 : (0 : Int) ≤ (i : Int) := by omega
    have hgone : (goneAll g w down)[i]? = some (goneLk w down i l) := by simp [goneAll, List.getElem?_mapIdx, hx]
    have hll : l.row.length = 4 := rfl
    have htl : List.take 4 l.row = l.row := rfl
    have kl : known (AVal.agg l.row) = some l.row := rfl
    have hl0 : l.row[0]? = some (.sc (.int .i64 l.a)) := rfl
    have hl1 : l.row[1]? = some (.sc (.int .i64 l.b)) := rfl
    have hl3 : l.row[3]? = some (.sc (.int .i64 l.c)) := rfl
    have hw5 : w.cells[5]? = some (.lst (ints w.links)) := rfl
    have hw6 : w.cells[6]? = some (.lst (ints w.cols)) := rfl
    have hw4 : w.cells[4]? = some (.lst (ints w.nodes)) := rfl
    simp only [go_sem, simprocAttr, rg, hrow, q0, hll, htl]
    intro lid hlid
    have r1 : ∀ o, Ab.rowAt (σ.set lid o) wid 0 = some (false, 7, [w.cells]) := fun o => by rw [rowAt_fresh hlid (by rw [rowAt_get h2]; rfl), rowAt_get h2]
    have r2 : ∀ o, Ab.rowAt (σ.set lid o) oid 0 = some (false, 1, bools (partB (goneAll g w down) i)) := fun o => by rw [rowAt_fresh hlid (by rw [rowAt_get h3]; rfl), rowAt_get h3]
    have hp := bools_get (partB_get (goneAll g w down) i (by omega))
    have hilt : (i : Int) < (g.ls.length : Int) := by omega
    have hw1 : IntKind.i64.wrap ((i : Int) + 1) = ((i + 1 : Nat) : Int) := by rw [wrap_id (by omega) (by omega)]; rfl
    have close : ∀ b : Bool, b = goneLk w down i l → Back (PrunLoop g w down gid wid oid) (g.ls.length - i) [(2, .lst (bools down)), (3, .ptr gid 0 0 0), (4, .ptr wid 0 0 0), (7, .sl oid 0 0 g.ls.length 1), (8, .i ((i + 1 : Nat) : Int))]
        ((σ.set lid (.row 0 false 4 [l.row])).set oid (.row 0 false 1 ((bools (partB (goneAll g w down) i)).set i [.sc (.bool b)]))) := by
      rintro b rfl
      refine back_of _ ?_ ⟨i + 1, by omega, rfl, rfl, ?_, ?_, ?_, hwo, hgo⟩
      · omega
      · rw [Store.get_set_ne _ _ hwo, get_fresh hlid (by rw [h2]; rfl), h2]
      · rw [Store.get_set_ne _ _ hgo, get_fresh hlid (by rw [h4]; rfl), h4]
      · rw [Store.get_set_self, ← bools_set, partB_set _ _ _ hgone]
    simp only [go_sem, simprocAttr, hll, htl, kl]
    refine good_imm (isdown_ok down i) rfl ?_
    simp only [go_sem, simprocAttr]
    cases hisd : isDown down (i : Int) with
    | true =>
      simp only [go_sem, simprocAttr, r2, hp, q0, hilt, hw1]
      exact close true (by simp only [goneLk, hisd, Bool.or_true, Bool.true_or])
    | false =>
    simp only [go_sem, simprocAttr, r1, hw5, hw6, hw4]
    refine good_imm (has_ok w.links i (by have := hw.links; omega)) rfl ?_
    simp only [go_sem, simprocAttr]
    cases c2 : w.links.contains (i : Int) with
    | true =>
      simp only [go_sem, simprocAttr, r2, hp, q0, hilt, hw1]
      exact close true (by simp only [goneLk, hisd, c2, Bool.or_true, Bool.true_or])
    | false =>
    simp only [go_sem, simprocAttr, r1, hw5, hw6, hw4, hl3]
    refine good_imm (has_ok w.cols l.c (by have := hw.cols; omega)) rfl ?_
    simp only [go_sem, simprocAttr]
    cases c3 : w.cols.contains l.c with
    | true =>
      simp only [go_sem, simprocAttr, r2, hp, q0, hilt, hw1]
      exact close true (by simp only [goneLk, hisd, c2, c3, Bool.or_true, Bool.true_or])
    | false =>
    simp only [go_sem, simprocAttr, r1, hw5, hw6, hw4, hl0]
    refine good_imm (has_ok w.nodes l.a (by have := hw.nodes; omega)) rfl ?_
    simp only [go_sem, simprocAttr]
    cases c4 : w.nodes.contains l.a with
    | true =>
      simp only [go_sem, simprocAttr, r2, hp, q0, hilt, hw1]
      exact close true (by simp only [goneLk, hisd, c2, c3, c4, Bool.or_true, Bool.true_or])
    | false =>
    simp only [go_sem, simprocAttr, r1, hw5, hw6, hw4, hl1]
    refine good_imm (has_ok w.nodes l.b (by have := hw.nodes; omega)) rfl ?_
    simp only [go_sem, simprocAttr, r2, hp, q0, hilt, hw1]
    exact close _ (by simp only [goneLk, hisd, c2, c3, c4, Bool.false_or])
  · have ei : i = g.ls.length := by omega
    have r3 := rowAt_get h3
    rw [partB_all _ _ (by rw [hgl]; omega)] at r3
    simp only [go_sem, simprocAttr]
    refine out_sl r3 (by rw [bools_len, hgl]; omega) ?_ (bools_sc _)
    rw [List.drop_zero, List.take_of_length_le (by rw [bools_len, hgl]; omega)]

theorem rcome_ok (p : List Int) (node : Int) (n : Nat) (hp : p.length ≤ 1000000) (hn : n ≤ 1000000) : PGood Try.prog 57 [.lst (ints p), .agg [.sc (.int .i64 node), .sc (.int .i64 n)]] (come p node n).val := by
  refine pgood_of_out 3 (good_of_wp isF57 (Nat.le_refl _) ?_)
  unfold ac57
  simp only [go_sem, simprocAttr]
  intro sid hsid
  simp only [go_sem, simprocAttr]
  intro id hid
  have hsi : sid ≠ id := fun e => by rw [← e] at hid; simp at hid
  simp only [go_sem, simprocAttr]
  refine loop_rule (fun m fr σ => ∃ (i : Nat), i ≤ 1000000 ∧ m = p.length - i ∧ fr = [(0, .lst (ints p)), (3, .ptr sid 0 0 0), (4, .ptr id 0 0 0)] ∧ σ.get id = some (.row 0 false 2 [[.sc (.int .i64 0), .sc (.int .i64 0)]]) ∧
    σ.get sid = some (.row 0 false 2 [[.sc (.int .i64 node), .sc (.int .i64 i)]]) ∧ comeN p node n = comeN p node i) (p.length - n) ⟨n, by omega, rfl, rfl, by simp, by rw [Store.get_set_ne _ _ hsi]; simp, rfl⟩ ?_
  rintro m fr σ ⟨i, h1, rfl, rfl, h2, h4, h3⟩
  have hwr : IntKind.i64.wrap ((i : Int) + 1) = ((i + 1 : Nat) : Int) := by rw [wrap_id (by omega) (by omega)]; rfl
  have q0 : (0 : Int) ≤ ((i + 1 : Nat) : Int) := by omega
  have q1 : (0 : Int) ≤ (i : Int) := by omega
  rw [comeN_eq p node i] at h3
  have r2 := rowAt_get h2
  have r4 := rowAt_get h4
  simp only [go_sem, simprocAttr]
  unfold op57_5
  simp only [go_sem, simprocAttr, r4, q1, hwr]
  have done : comeN p node n = i → Out 3 (σ.set id (.row 0 false 2 [[.sc (.int .i64 node), .sc (.int .i64 i)]])) (.agg [.sc (.int .i64 node), .sc (.int .i64 i)]) (come p node n).val := fun h => by
    unfold come
    rw [h]
    exact out_imm rfl
  by_cases h : ((i + 1 : Nat) : Int) < (p.length : Int)
  · have hx : p[i + 1]? = some p[i + 1] := List.getElem?_eq_getElem (by omega)
    have hg := ints_get hx
    generalize p[i + 1]'(by omega) = x at *
    simp only [go_sem, simprocAttr, h, r4, hwr, hg, q0, q1]
    refine .intro (fun hc => ?_) (fun hc => ?_)
    · simp only [go_sem, simprocAttr, r4, hwr]
      rw [hx, if_pos (by rw [hc])] at h3
      refine back_of _ ?_ ⟨i + 1, by omega, rfl, rfl, ?_, ?_, h3⟩
      · omega
      · rw [Store.get_set_ne _ _ hsi.symm, h2]
      · rw [Store.get_set_self]
    · simp only [go_sem, simprocAttr, r2, r4]
      rw [hx, if_neg (fun e => hc (Option.some.inj e))] at h3
      exact done h3
  · simp only [go_sem, simprocAttr, h, r2, r4]
    rw [List.getElem?_eq_none (by omega), if_neg (by simp)] at h3
    exact done h3

theorem rstart_ok (w : Wt) (hw : w.Few) : PGood Try.prog 31 [w.val] w.start.val := by
  refine pgood_of_out 3 (good_of_wp isF31 (Nat.le_refl _) ?_)
  unfold ac31
  have kw : known (AVal.agg w.cells) = some w.cells := rfl
  have lw : w.cells.length = 7 := rfl
  have tw : List.take 7 w.cells = w.cells := rfl
  have hw0 : w.cells[0]? = some (.sc (.int .i64 w.from_)) := rfl
  have hv := hw.via
  simp only [go_sem, simprocAttr, Wt.val, kw, lw]
  intro wid hwid
  simp only [go_sem, simprocAttr]
  intro sid hsid
  have f1 := fun o => rowAt_fresh (o := o) hsid (j := wid) (ver := 0) (by rw [rowAt_self]; rfl)
  simp only [go_sem, simprocAttr]
  unfold op31_3
  simp only [go_sem, simprocAttr, f1, lw, tw]
  refine goodD_imm (rpoints_ok w hw) rfl ?_
  simp only [go_sem, simprocAttr, f1, lw, tw, hw0]
  refine goodD_imm (rcome_ok w.pts w.from_ 0 (by rw [w.pts_len]; omega) (by omega)) rfl ?_
  have ks : known (come w.pts w.from_ 0).val = some (come w.pts w.from_ 0).row := rfl
  have ls : (come w.pts w.from_ 0).row.length = 2 := rfl
  have ts : List.take 2 (come w.pts w.from_ 0).row = (come w.pts w.from_ 0).row := rfl
  simp only [go_sem, simprocAttr, ks, ls, ts]
  exact out_imm rfl
end Go.Proofs

set_option linter.unusedSimpArgs false
set_option linter.unusedVariables false
namespace Go.Proofs
open Go.Ab

/-! ### What a want costs -/
def farAt (g : Gr) (d : List Bool) (p : List Int) (i : Nat) : Int := at0 (spfFrom g d (p.getD i 0)) (p.getD (i + 1) 0)
def sumF (F : Nat → Int) : Nat → Option Int
  | 0 => some 0
  | k + 1 => match sumF F k with
    | some c => if F k < 0 then none else some (c + F k)
    | none => none
theorem sumF_none {F : Nat → Int} {k : Nat} (h : sumF F k = none) : ∀ j, k ≤ j → sumF F j = none := by
  intro j hj
  induction hj with
  | refl => exact h
  | step _ ih => simp [sumF, ih]
def costOf (g : Gr) (w : Wt) (down : List Bool) : Int × Int :=
  if rightOf g w = 0 then
    match sumF (farAt g (goneAll g w down) w.pts) (w.via.length + 1) with
    | none => (0, 8)
    | some c => if 0 < w.bound ∧ w.bound < c then (0, 8) else (c, 0)
  else (0, rightOf g w)

theorem right_facts {g : Gr} {w : Wt} (h : rightOf g w = 0) : g.Ok ∧ (∀ x ∈ w.pts, 0 ≤ x ∧ x < g.n) ∧ w.via.length ≤ 4 := by
  unfold rightOf at h
  split at h
  · rename_i h0
    exact absurd h h0
  rename_i h0
  have h0' : g.check.2 = 0 := by
    by_cases e : g.check.2 = 0
    · exact e
    · exact absurd e h0
  split at h
  · cases h
  rename_i h1
  split at h
  · cases h
  split at h
  · cases h
  split at h
  · cases h
  rename_i h5
  refine ⟨g.check_ok.1 h0', fun x hx => ?_, by omega⟩
  simp only [Bool.or_eq_true, not_or, Bool.not_eq_true] at h1
  have key : ∀ x, g.noNode x = false → 0 ≤ x ∧ x < g.n := fun x hx => by simpa [Gr.noNode] using hx
  simp only [Wt.pts, List.mem_cons, List.mem_append, List.mem_nil_iff, or_false] at hx
  rcases hx with rfl | hx | rfl
  · exact key _ h1.1.1.1
  · have := h1.1.2
    rw [List.any_eq_false] at this
    exact key _ (by simpa using this x hx)
  · exact key _ h1.1.1.2

theorem pts_get {w : Wt} {i : Nat} (h : i < w.pts.length) : w.pts[i]? = some (w.pts.getD i 0) := by
  rw [List.getD_eq_getElem?_getD, List.getElem?_eq_getElem h]; rfl
theorem pts_range {g : Gr} {w : Wt} (h : rightOf g w = 0) {i : Nat} (hi : i < w.pts.length) : 0 ≤ w.pts.getD i 0 ∧ w.pts.getD i 0 < g.n :=
  (right_facts h).2.1 _ (List.mem_of_getElem? (pts_get hi))
theorem at0_get {l : List Int} {x : Int} (h0 : 0 ≤ x) (h1 : x.toNat < l.length) : l[x.toNat]? = some (at0 l x) := by
  unfold at0
  rw [List.getD_eq_getElem?_getD, List.getElem?_eq_getElem h1]; rfl
theorem far_bound (g : Gr) (d : List Bool) (a b : Int) : -1 ≤ at0 (spfFrom g d a) b ∧ at0 (spfFrom g d a) b ≤ 671088640 := by
  unfold at0
  rw [List.getD_eq_getElem?_getD]
  cases h : (spfFrom g d a)[b.toNat]? with
  | none => simp
  | some x =>
    have := refFrom_mild x (by rw [← spf_eq_ref]; exact List.mem_of_getElem? h)
    simpa using this
theorem spf_len {g : Gr} (hg : g.Ok) {d : List Bool} {x : Int} (hx : 0 ≤ x ∧ x < g.n) : (spfFrom g d x).length = g.n.toNat := (spfFrom_dist hg hx).len

theorem rcost_ok (g : Gr) (w : Wt) (hw : w.Few) (down : List Bool) (hd : down.length ≤ 1000000) (hg : g.ls.length ≤ 1000000) : PGood Try.prog 54 [g.val, w.val, .lst (bools down)] (.tup [.i (costOf g w down).1, .i (costOf g w down).2]) := by
  refine pgood_of_out 3 (good_of_wp isF54 (Nat.le_refl _) ?_)
  unfold ac54
  simp only [go_sem, simprocAttr, Gr.val, Wt.val]
  have kw : known (AVal.agg w.cells) = some w.cells := rfl
  have lw : w.cells.length = 7 := rfl
  have tw : List.take 7 w.cells = w.cells := rfl
  intro gid hgid
  simp only [go_sem, simprocAttr, kw, lw]
  intro wid hwid
  have f1 := fun o => rowAt_fresh (o := o) hwid (j := gid) (ver := 0) (by rw [rowAt_self]; rfl)
  simp only [go_sem, simprocAttr, f1, lw, tw]
  refine good_imm (rright_ok g w hw) rfl ?_
  simp only [go_sem, simprocAttr]
  by_cases h0 : rightOf g w = 0
  case neg =>
    simp only [go_sem, simprocAttr, h0]
    have e : costOf g w down = (0, rightOf g w) := if_neg h0
    rw [e]
    exact out_imm rfl
  simp only [go_sem, simprocAttr, h0, f1, lw, tw]
  refine good_imm (rpoints_ok w hw) rfl ?_
  simp only [go_sem, simprocAttr, h0, f1, lw, tw]
  refine good_imm (pruned_ok g w hw down hd hg) rfl ?_
  have e : prunedOf g w down = goneAll g w down := if_pos h0
  rw [e]
  have e2 : costOf g w down = match sumF (farAt g (goneAll g w down) w.pts) (w.via.length + 1) with
    | none => (0, 8)
    | some c => if 0 < w.bound ∧ w.bound < c then (0, 8) else (c, 0) := if_pos h0
  obtain ⟨hok, hpts, hvia⟩ := right_facts h0
  have hpl := w.pts_len
  generalize goneAll g w down = gone at *
  have rg0 := (f1 (.row 0 false 7 [w.cells])).trans rowAt_self
  have rw0 : Ab.rowAt ((Store.empty.set gid (.row 0 false 2 [[.sc (.int .i64 g.n), .lst (g.ls.map Lk.row)]])).set wid (.row 0 false 7 [w.cells])) wid 0 = some (false, 7, [w.cells]) := rowAt_self
  generalize ((Store.empty.set gid (.row 0 false 2 [[.sc (.int .i64 g.n), .lst (g.ls.map Lk.row)]])).set wid (.row 0 false 7 [w.cells])) = σ0 at *
  simp only [go_sem, simprocAttr]
  have hw2 : w.cells[2]? = some (.sc (.int .i64 w.bound)) := rfl
  refine loop_rule (fun m fr σ => ∃ (i : Nat) (c : Int), i ≤ w.via.length + 1 ∧ m = w.via.length + 1 - i ∧ fr = [(3, .ptr gid 0 0 0), (4, .ptr wid 0 0 0), (9, .lst (ints w.pts)), (10, .lst (bools gone)), (11, .i c), (12, .i i)] ∧ σ = σ0 ∧ sumF (farAt g gone w.pts) i = some c ∧ 0 ≤ c ∧ c ≤ i * 671088640) (w.via.length + 1) ⟨0, 0, by omega, rfl, rfl, rfl, rfl, by omega, by omega⟩ ?_
  rintro m fr σ ⟨i, c, h1, rfl, rfl, rfl, h2, h3, h4⟩
  have hwr : IntKind.i64.wrap ((i : Int) + 1) = ((i + 1 : Nat) : Int) := by rw [wrap_id (by omega) (by omega)]; rfl
  have q0 : (0 : Int) ≤ (i : Int) := by omega
  have q1 : (0 : Int) ≤ ((i + 1 : Nat) : Int) := by omega
  simp only [go_sem, simprocAttr, hwr]
  refine .intro (fun h => ?_) (fun h => ?_)
  · have hi : i < w.pts.length := by omega
    have hi1 : i + 1 < w.pts.length := by omega
    have p0 := ints_get (pts_get hi)
    have p1 := ints_get (pts_get hi1)
    have b0 := pts_range h0 hi
    have b1 := pts_range h0 hi1
    simp only [go_sem, simprocAttr]
    unfold op54_33
    simp only [go_sem, simprocAttr, rg0, p0, p1, q0, q1, hwr]
    refine goodD_imm (ref_from_ok g gone _) rfl ?_
    rw [← spf_eq_ref]
    have hx := ints_get (at0_get (l := spfFrom g gone (w.pts.getD i 0)) b1.1 (by rw [spf_len hok b0]; omega))
    have hfb := far_bound g gone (w.pts.getD i 0) (w.pts.getD (i + 1) 0)
    have hfe : at0 (spfFrom g gone (w.pts.getD i 0)) (w.pts.getD (i + 1) 0) = farAt g gone w.pts i := rfl
    rw [hfe] at hx hfb
    simp only [go_sem, simprocAttr, p1, q1, b1, hx, hwr]
    refine .intro (fun hn => ?_) (fun hn => ?_)
    · simp only [go_sem, simprocAttr]
      have hs : sumF (farAt g gone w.pts) (i + 1) = none := by simp [sumF, h2, hn]
      rw [e2, sumF_none hs _ (by omega)]
      exact out_imm rfl
    · have hwc : IntKind.i64.wrap (c + farAt g gone w.pts i) = c + farAt g gone w.pts i := wrap_id (by omega) (by omega)
      simp only [go_sem, simprocAttr, hwr, hwc]
      refine back_of _ ?_ ⟨i + 1, _, by omega, rfl, rfl, rfl, ?_, by omega, ?_⟩
      · omega
      · simp [sumF, h2, hn]
      · omega
  · have ei : i = w.via.length + 1 := by omega
    rw [ei] at h2
    rw [h2] at e2
    simp only at e2
    simp only [go_sem, simprocAttr, rw0, hw2]
    by_cases hb : 0 < w.bound
    · simp only [go_sem, simprocAttr, hb, rw0, hw2]
      by_cases hc : w.bound < c
      · simp only [go_sem, simprocAttr, hc]
        rw [e2, if_pos ⟨hb, hc⟩]
        exact out_imm rfl
      · simp only [go_sem, simprocAttr, hc]
        rw [e2, if_neg (fun q => hc q.2)]
        exact out_imm rfl
    · simp only [go_sem, simprocAttr, hb]
      rw [e2, if_neg (fun q => hb q.1)]
      exact out_imm rfl

/-- The document's own tools for a want. -/
def farRows (g : Gr) (gone : List Bool) (l : List Int) : List (List AVal) := l.map fun x => [.lst (ints (spfFrom g gone x))]
def roptV (g : Gr) (p : List Int) (gone : List Bool) : AVal := .iptr [.sc (.int .i64 g.n), .lst (g.ls.map Lk.row), .lst (ints p), .lst (bools gone), .lst (farRows g gone p)] 0
def roptOf (g : Gr) (w : Wt) (down : List Bool) : AVal := if (costOf g w down).2 = 0 then .tup [roptV g w.pts (goneAll g w down), .b true] else .tup [.nilp, .b false]

theorem cost_right {g : Gr} {w : Wt} {down : List Bool} (h : (costOf g w down).2 = 0) : rightOf g w = 0 := by
  by_cases h0 : rightOf g w = 0
  · exact h0
  · unfold costOf at h
    rw [if_neg h0] at h
    exact h

def NewOptLoop (g : Gr) (p : List Int) (gone : List Bool) (gid oid : Nat) (m : Nat) (fr : Fr) (σ : Store) : Prop :=
  ∃ (i : Nat) (v : AVal), i ≤ p.length ∧ m = p.length - i ∧ fr = [(3, .ptr gid 0 0 0), (10, .ptr oid 0 0 0), (11, .i i)] ∧
    σ.get gid = some (.row 0 false 2 [[.sc (.int .i64 g.n), .lst (g.ls.map Lk.row)]]) ∧ σ.get oid = some (.row 0 false 5 [[.sc (.int .i64 g.n), .lst (g.ls.map Lk.row), .lst (ints p), .lst (bools gone), v]]) ∧ gid ≠ oid ∧
    Acc σ 1 v (farRows g gone (p.take i)) [oid, gid]

theorem newopt_ok (g : Gr) (w : Wt) (hw : w.Few) (down : List Bool) (hd : down.length ≤ 1000000) (hg : g.ls.length ≤ 1000000) : PGood Try.prog 30 [g.val, w.val, .lst (bools down)] (roptOf g w down) := by
  refine pgood_of_out 5 (good_of_wp isF30 (Nat.le_refl _) ?_)
  unfold ac30
  simp only [go_sem, simprocAttr, Gr.val, Wt.val]
  have kw : known (AVal.agg w.cells) = some w.cells := rfl
  have lw : w.cells.length = 7 := rfl
  have tw : List.take 7 w.cells = w.cells := rfl
  intro gid hgid
  simp only [go_sem, simprocAttr, kw, lw]
  intro wid hwid
  have f1 := fun o => rowAt_fresh (o := o) hwid (j := gid) (ver := 0) (by rw [rowAt_self]; rfl)
  have hgw : gid ≠ wid := fun e => by rw [← e] at hwid; simp at hwid
  simp only [go_sem, simprocAttr, f1, lw, tw]
  refine good_imm (rcost_ok g w hw down hd hg) rfl ?_
  simp only [go_sem, simprocAttr]
  by_cases h0 : (costOf g w down).2 = 0
  case neg =>
    simp only [go_sem, simprocAttr, h0]
    unfold roptOf
    rw [if_neg h0]
    exact out_imm rfl
  have hr := cost_right h0
  obtain ⟨hok, hpts, hvia⟩ := right_facts hr
  have hpl := w.pts_len
  unfold roptOf
  rw [if_pos h0]
  simp only [go_sem, simprocAttr, h0]
  unfold op30_21
  simp only [go_sem, simprocAttr, f1, lw, tw]
  refine goodD_imm (rpoints_ok w hw) rfl ?_
  simp only [go_sem, simprocAttr, f1, lw, tw]
  refine goodD_imm (pruned_ok g w hw down hd hg) rfl ?_
  have e : prunedOf g w down = goneAll g w down := if_pos hr
  rw [e]
  generalize goneAll g w down = gone at *
  simp only [go_sem, simprocAttr]
  intro oid hoid
  have hgo : gid ≠ oid := fun e => by rw [← e] at hoid; rw [Store.get_set_ne _ _ hgw] at hoid; simp at hoid
  simp only [go_sem, simprocAttr]
  refine loop_rule (NewOptLoop g w.pts gone gid oid) w.pts.length ⟨0, .nils, by omega, rfl, rfl, ?_, ?_, hgo, ?_⟩ ?_
  · rw [Store.get_set_ne _ _ hgo, Store.get_set_ne _ _ hgw]; simp
  · rw [Store.get_set_self]
  · exact acc_nils (alive_cons (Store.get_set_self _ _ _) (alive_cons (by rw [Store.get_set_ne _ _ hgo, Store.get_set_ne _ _ hgw]; exact Store.get_set_self _ _ _) alive_nil))
  rintro m fr σ ⟨i, v, h1, rfl, rfl, h2, h3, _, h5⟩
  have rg := rowAt_get h2
  have ro := rowAt_get h3
  have hwr : IntKind.i64.wrap ((i : Int) + 1) = ((i + 1 : Nat) : Int) := by rw [wrap_id (by omega) (by omega)]; rfl
  have q0 : (0 : Int) ≤ (i : Int) := by omega
  simp only [go_sem, simprocAttr, ro]
  refine .intro (fun h => ?_) (fun h => ?_)
  · have hi : i < w.pts.length := by omega
    have p0 := ints_get (pts_get hi)
    simp only [go_sem, simprocAttr]
    unfold op30_39
    simp only [go_sem, simprocAttr, rg, ro, p0, q0]
    refine goodD_imm (ref_from_ok g gone _) rfl ?_
    rw [← spf_eq_ref]
    simp only [go_sem, simprocAttr]
    intro lid hlid
    have hlo := fun o => rowAt_fresh (o := o) hlid (j := oid) (ver := 0) (by rw [ro]; rfl)
    simp only [go_sem, simprocAttr, resD_append]
    refine acc_append (h5.fresh hlid _) (by simp only [farRows, List.length_map, List.length_take, List.length_cons, List.length_nil]; omega) (by simp only [farRows, List.length_map, List.length_take, List.length_cons, List.length_nil]; omega) fun v' σ' k1 k2 => ?_
    have g1 : σ'.get oid = _ := (k2 oid (by simp)).trans ((get_fresh hlid (by rw [h3]; rfl)).trans h3)
    have g2 : σ'.get gid = _ := (k2 gid (by simp)).trans ((get_fresh hlid (by rw [h2]; rfl)).trans h2)
    have ro' := rowAt_get g1
    have kn := k1.known
    simp only [go_sem, simprocAttr, ro', kn, hwr]
    refine back_of _ ?_ ⟨i + 1, v', by omega, rfl, rfl, ?_, ?_, hgo, ?_⟩
    · omega
    · rw [Store.get_set_ne _ _ hgo, g2]
    · rw [Store.get_set_self]
    · have er : farRows g gone (w.pts.take (i + 1)) = farRows g gone (w.pts.take i) ++ [[.lst (ints (spfFrom g gone (w.pts.getD i 0)))]] := by
        rw [List.take_add_one, pts_get hi]
        simp [farRows]
      rw [er]
      exact (k1.less (o2 := [oid, gid]) (by simp)).other (by simp) _
  · have ei : w.pts.take i = w.pts := List.take_of_length_le (by omega)
    rw [ei] at h5
    simp only [go_sem, simprocAttr]
    have i1 : ∀ y ∈ farRows g gone w.pts, ∀ c ∈ y, immA 2 c = true := fun y hy c hc => by
      simp only [farRows, List.mem_map] at hy
      obtain ⟨k, _, rfl⟩ := hy
      simp at hc
      subst hc; rfl
    refine out_tup2 (m := 4) (out_ptr (m := 3) ro rfl ⟨out_sc, out_imm rfl, out_imm rfl, out_imm rfl, acc_out_imm h5 i1, trivial⟩) out_sc
end Go.Proofs

set_option linter.unusedSimpArgs false
set_option linter.unusedVariables false
namespace Go.Proofs
open Go.Ab

structure Sg where
  e : Bool
  t : Int
def Sg.row (s : Sg) : List AVal := [.sc (.bool s.e), .sc (.int .i64 s.t)]
def Sg.val (s : Sg) : AVal := .agg s.row

def wnext (g : Gr) (t f : Int) : List Int := nextOf g [] (spfFrom g [] t) f
def nextRow (g : Gr) (t : Int) (k : Nat) : List (List AVal) := (List.range k).map fun (f : Nat) => [.lst (ints (wnext g t f))]
def nextRowsT (g : Gr) (k : Nat) : List (List AVal) := (List.range k).map fun (t : Nat) => [.lst (nextRow g t g.n.toNat)]
def toRowsT (g : Gr) (k : Nat) : List (List AVal) := (List.range k).map fun (t : Nat) => [.lst (ints (spfFrom g [] t))]
def Gr.tab (g : Gr) : AVal := .iptr [.sc (.int .i64 g.n), .lst (g.ls.map Lk.row), .lst (toRowsT g g.n.toNat), .lst (nextRowsT g g.n.toNat)] 0

theorem tis_ok (g : Gr) (x : Int) : PGood Try.prog 88 [g.tab, .i x] (.b (decide (0 ≤ x ∧ x < g.n))) := by
  refine pgood_of_out 3 (good_of_wp isF88 (Nat.le_refl _) ?_)
  unfold ac88
  simp only [go_sem, simprocAttr, Gr.tab]
  refine good_imm (is_ok g.n _ x) rfl ?_
  simp only [go_sem, simprocAttr]
  exact out_sc

theorem tgraph_ok (g : Gr) (hg : g.ls.length ≤ 1000000) : PGood Try.prog 27 [g.tab] g.val := by
  refine pgood_of_out 3 (good_of_wp isF27 (Nat.le_refl _) ?_)
  unfold ac27
  simp only [go_sem, simprocAttr, Gr.tab]
  intro id hid
  simp only [go_sem, simprocAttr]
  unfold op27_6
  simp only [go_sem, simprocAttr]
  refine goodD_imm (clone_links_ok g.ls hg) rfl ?_
  simp only [go_sem, simprocAttr]
  exact out_imm rfl

def wdist (g : Gr) (f t : Int) : Int := if (0 ≤ f ∧ f < g.n) ∧ (0 ≤ t ∧ t < g.n) then at0 (spfFrom g [] t) f else -1
def wnextOf (g : Gr) (f t : Int) : List Int := if (0 ≤ f ∧ f < g.n) ∧ (0 ≤ t ∧ t < g.n) then wnext g t f else []
theorem range_row {α : Type} (F : Nat → α) {k : Nat} {x : Int} (h0 : 0 ≤ x) (h1 : x.toNat < k) : ((List.range k).map F)[x.toNat]? = some (F x.toNat) := by simp [h1]

theorem wnext_len (g : Gr) (t f : Int) : (wnext g t f).length ≤ 2 * g.ls.length := by
  unfold wnext nextOf
  split
  · exact Nat.le_trans (List.length_filter_le _ _) (g.out_len _)
  · simp
theorem tnext_ok (g : Gr) (f t : Int) (hg : g.ls.length ≤ 120) : PGood Try.prog 70 [g.tab, .i f, .i t] (.lst (ints (wnextOf g f t))) := by
  refine pgood_of_out 3 (good_of_wp isF70 (Nat.le_refl _) ?_)
  unfold ac70
  simp only [go_sem, simprocAttr]
  refine good_imm (tis_ok g f) rfl ?_
  simp only [go_sem, simprocAttr]
  by_cases h1 : 0 ≤ f ∧ f < g.n
  · simp only [go_sem, simprocAttr, h1]
    refine good_imm (tis_ok g t) rfl ?_
    by_cases h2 : 0 ≤ t ∧ t < g.n
    · have ht : t.toNat < g.n.toNat := by omega
      have hf : f.toNat < g.n.toNat := by omega
      have x1 : (nextRowsT g g.n.toNat)[t.toNat]? = some [.lst (nextRow g t.toNat g.n.toNat)] := range_row _ h2.1 ht
      have x2 : (nextRow g t.toNat g.n.toNat)[f.toNat]? = some [.lst (ints (wnext g t.toNat f.toNat))] := range_row _ h1.1 hf
      have e1 : ((t.toNat : Nat) : Int) = t := by omega
      have e2 : ((f.toNat : Nat) : Int) = f := by omega
      rw [e1, e2] at x2
      rw [e1] at x1
      simp only [go_sem, simprocAttr, h1, h2, Gr.tab, x1, x2]
      have e3 : wnextOf g f t = wnext g t f := if_pos ⟨h1, h2⟩
      rw [e3]
      refine good_imm (clone_ints_ok _ ?_) rfl ?_
      · have := wnext_len g t f
        omega
      · simp only [go_sem, simprocAttr]
        exact out_imm rfl
    · simp only [go_sem, simprocAttr, h1, h2]
      have e3 : wnextOf g f t = [] := if_neg fun e => h2 e.2
      rw [e3]
      exact out_nils
  · simp only [go_sem, simprocAttr, h1]
    have e3 : wnextOf g f t = [] := if_neg fun e => h1 e.1
    rw [e3]
    exact out_nils

theorem tdist_ok (g : Gr) (hok : g.Ok) (f t : Int) : PGood Try.prog 84 [g.tab, .i f, .i t] (.i (wdist g f t)) := by
  refine pgood_of_out 3 (good_of_wp isF84 (Nat.le_refl _) ?_)
  unfold ac84
  simp only [go_sem, simprocAttr]
  refine good_imm (tis_ok g f) rfl ?_
  simp only [go_sem, simprocAttr]
  by_cases h1 : 0 ≤ f ∧ f < g.n
  · simp only [go_sem, simprocAttr, h1]
    refine good_imm (tis_ok g t) rfl ?_
    by_cases h2 : 0 ≤ t ∧ t < g.n
    · have ht : t.toNat < g.n.toNat := by omega
      have hf : f.toNat < g.n.toNat := by omega
      have x1 : (toRowsT g g.n.toNat)[t.toNat]? = some [.lst (ints (spfFrom g [] t.toNat))] := range_row _ h2.1 ht
      have e1 : ((t.toNat : Nat) : Int) = t := by omega
      rw [e1] at x1
      have x2 : (ints (spfFrom g [] t))[f.toNat]? = some [.sc (.int .i64 (at0 (spfFrom g [] t) f))] := by
        have hl := (spfFrom_dist hok (down := []) h2).len
        exact ints_get (by unfold at0; simp [hl, hf])
      simp only [go_sem, simprocAttr, h1, h2, Gr.tab, x1, x2]
      have e3 : wdist g f t = at0 (spfFrom g [] t) f := if_pos ⟨h1, h2⟩
      rw [e3]
      exact out_sc
    · simp only [go_sem, simprocAttr, h1, h2]
      have e3 : wdist g f t = -1 := if_neg fun e => h2 e.2
      rw [e3]
      exact out_sc
  · simp only [go_sem, simprocAttr, h1]
    have e3 : wdist g f t = -1 := if_neg fun e => h1 e.1
    rw [e3]
    exact out_sc

def Gr.isSeg (g : Gr) (s : Sg) : Bool := if s.e then decide (0 ≤ s.t ∧ s.t < 2 * (g.ls.length : Int)) else decide (0 ≤ s.t ∧ s.t < g.n)
theorem fib_is_ok (g : Gr) (s : Sg) (hg : g.ls.length ≤ 1000000) : PGood Try.prog 69 [g.val, s.val] (.b (g.isSeg s)) := by
  refine pgood_of_out 3 (good_of_wp isF69 (Nat.le_refl _) ?_)
  unfold ac69
  obtain ⟨e, t⟩ := s
  simp only [go_sem, simprocAttr, Gr.val, Sg.val, Sg.row]
  intro id hid
  simp only [go_sem, simprocAttr]
  intro id2 hid2
  have f1 := fun o => rowAt_fresh (o := o) hid2 (j := id) (ver := 0) (by rw [rowAt_self]; rfl)
  have hw : IntKind.i64.wrap (2 * (g.ls.length : Int)) = 2 * (g.ls.length : Int) := wrap_id (by omega) (by omega)
  simp only [go_sem, simprocAttr, f1]
  cases e with
  | true =>
    simp only [go_sem, simprocAttr]
    refine .intro (fun h => ?_) (fun h => ?_)
    · simp only [go_sem, simprocAttr, h, f1, hw]
      refine sub_out out_sc ?_
      simp [Gr.isSeg, h]
    · simp only [go_sem, simprocAttr, h, f1, hw]
      refine sub_out out_sc ?_
      simp [Gr.isSeg, h]
  | false =>
    simp only [go_sem, simprocAttr, f1]
    refine good_imm (is_ok g.n _ t) rfl ?_
    simp only [go_sem, simprocAttr]
    exact out_sc
end Go.Proofs

set_option linter.unusedSimpArgs false
set_option linter.unusedVariables false
namespace Go.Proofs
open Go.Ab

def newOf (g : Gr) : AVal := if g.check.2 = 0 then .tup [g.tab, .i 0] else .tup [.nilp, .i g.check.2]
theorem nextRow_succ (g : Gr) (t : Int) (k : Nat) : nextRow g t (k + 1) = nextRow g t k ++ [[.lst (ints (wnext g t k))]] := by simp [nextRow, List.range_succ]
theorem nextRowsT_succ (g : Gr) (k : Nat) : nextRowsT g (k + 1) = nextRowsT g k ++ [[.lst (nextRow g k g.n.toNat)]] := by simp [nextRowsT, List.range_succ]
theorem toRowsT_succ (g : Gr) (k : Nat) : toRowsT g (k + 1) = toRowsT g k ++ [[.lst (ints (spfFrom g [] k))]] := by simp [toRowsT, List.range_succ]
theorem nextRow_len (g : Gr) (t : Int) (k : Nat) : (nextRow g t k).length = k := by simp [nextRow]
theorem nextRowsT_len (g : Gr) (k : Nat) : (nextRowsT g k).length = k := by simp [nextRowsT]
theorem toRowsT_len (g : Gr) (k : Nat) : (toRowsT g k).length = k := by simp [toRowsT]

def NewInv (g : Gr) (gid tid : Nat) (m : Nat) (fr : Fr) (σ : Store) : Prop := ∃ (i : Nat) (v1 v2 : AVal), i ≤ g.n.toNat ∧ m = g.n.toNat - i ∧ fr = [(1, .ptr gid 0 0 0), (6, .ptr tid 0 0 0), (28, .i g.n), (29, .i i)] ∧ gid ≠ tid ∧
      σ.get gid = some (.row 0 false 2 [[.sc (.int .i64 g.n), .lst (g.ls.map Lk.row)]]) ∧ σ.get tid = some (.row 0 false 4 [[.sc (.int .i64 g.n), .lst (g.ls.map Lk.row), v1, v2]]) ∧
      Two σ 1 v1 (toRowsT g i) 1 v2 (nextRowsT g i) [tid, gid]
theorem new_fin {g : Gr} {gid tid i : Nat} {v1 v2 v w1 w2 : AVal} {σ' σe : Store} (hi : i + 1 ≤ g.n.toNat) (hne : gid ≠ tid)
    (k6 : Acc σ' 1 v (nextRow g i g.n.toNat) (objs v1 ++ (objs v2 ++ [tid, gid]))) (h2 : Two σe 1 w1 (toRowsT g i ++ [[.lst (ints (spfFrom g [] i))]]) 1 w2 (nextRowsT g i ++ [[v]]) (objs v ++ [tid, gid]))
    (hg : σe.get gid = some (.row 0 false 2 [[.sc (.int .i64 g.n), .lst (g.ls.map Lk.row)]])) (hv : ∀ x ∈ objs v, σe.get x = σ'.get x) :
    Back (NewInv g gid tid) (g.n.toNat - i) [(1, .ptr gid 0 0 0), (6, .ptr tid 0 0 0), (28, .i g.n), (29, .i ((i + 1 : Nat) : Int))] (σe.set tid (.row 0 false 4 [[.sc (.int .i64 g.n), .lst (g.ls.map Lk.row), w1, w2]])) := by
  have h3 := h2.other (id := tid) (by simp) (.row 0 false 4 [[.sc (.int .i64 g.n), .lst (g.ls.map Lk.row), w1, w2]])
  have nv : ∀ j ∈ objs v, j ∉ [tid, gid] := fun j hj hm => k6.objs_not j hj (by simp only [List.mem_append]; exact .inr (.inr hm))
  generalize hτ : σe.set tid (.row 0 false 4 [[.sc (.int .i64 g.n), .lst (g.ls.map Lk.row), w1, w2]]) = τ at *
  have gt : τ.get tid = some (.row 0 false 4 [[.sc (.int .i64 g.n), .lst (g.ls.map Lk.row), w1, w2]]) := by rw [← hτ]; simp
  have gg : τ.get gid = some (.row 0 false 2 [[.sc (.int .i64 g.n), .lst (g.ls.map Lk.row)]]) := by rw [← hτ, Store.get_set_ne _ _ hne]; exact hg
  have hv2 : Acc τ 1 v (nextRow g i g.n.toNat) [] := k6.keep (fun j hj => by
    rw [← hτ, Store.get_set_ne _ _ (fun e => nv j hj (by simp [e])), hv j hj]) alive_nil (fun _ _ h => by cases h)
  obtain ⟨σ0, q1, q2, q3⟩ := weak_put (fr := [(1, .ptr gid 0 0 0), (6, .ptr tid 0 0 0), (28, .i g.n), (29, .i ((i + 1 : Nat) : Int))]) (m := 2) (others := objs w1 ++ [tid, gid]) hv2 (h3.2.less fun x hx => by
    simp only [List.mem_append] at hx ⊢
    rcases hx with hx | hx | hx
    · exact .inr (.inl hx)
    · exact .inl hx
    · exact .inr (.inr hx)) (fun y hy c hc => by
      simp only [nextRow, List.mem_map] at hy
      obtain ⟨k, _, rfl⟩ := hy
      simp at hc
      subst hc; rfl)
  have n2 : ∀ j ∈ [tid, gid], j ∉ objs v ∧ j ∉ objs w2 := fun j hj => ⟨fun hm => nv j hm hj, fun hm => h3.2.objs_not j hm (by simp only [List.mem_append]; exact .inr (.inr hj))⟩
  have n1 : ∀ j ∈ objs w1, j ∉ objs v ∧ j ∉ objs w2 := fun j hj => ⟨fun hm => h3.1.objs_not j hj (by simp only [List.mem_append]; exact .inr (.inl hm)), fun hm => h3.1.objs_not j hj (by simp only [List.mem_append]; exact .inl hm)⟩
  refine back_weak (g.n.toNat - (i + 1)) (by omega) _ σ0 q1 ⟨i + 1, w1, w2, hi, rfl, rfl, hne, ?_, ?_, ?_, ?_⟩
  · rw [q3 gid (n2 gid (by simp)).1 (n2 gid (by simp)).2, gg]
  · rw [q3 tid (n2 tid (by simp)).1 (n2 tid (by simp)).2, gt]
  · rw [toRowsT_succ]
    refine h3.1.keep (fun j hj => q3 j (n1 j hj).1 (n1 j hj).2) (q2.objs_alive.app (q2.1.right.right)) fun j hj hm => ?_
    rcases List.mem_append.1 hm with hm | hm
    · exact (n1 j hj).2 hm
    · exact h3.1.objs_not j hj (by simp only [List.mem_append]; exact .inr (.inr hm))
  · rw [nextRowsT_succ]
    exact q2.less fun x hx => List.mem_append_right _ hx
structure Lf (g : Gr) (gid tid : Nat) (v1 v2 v : AVal) (σ' : Store) (E : List (Nat × Ab.Obj)) (σ : Store) (w1 : AVal) (r1 : List (List AVal)) (w2 : AVal) (r2 : List (List AVal)) : Prop where
  two : Two σ 1 w1 r1 1 w2 r2 (E.map (·.1) ++ (objs v ++ [tid, gid]))
  hg : σ.get gid = some (.row 0 false 2 [[.sc (.int .i64 g.n), .lst (g.ls.map Lk.row)]])
  ht : σ.get tid = some (.row 0 false 4 [[.sc (.int .i64 g.n), .lst (g.ls.map Lk.row), v1, v2]])
  hv : ∀ x ∈ objs v, σ.get x = σ'.get x
  he : ∀ p ∈ E, σ.get p.1 = some p.2
section
variable {g : Gr} {gid tid : Nat} {v1 v2 v : AVal} {σ' σ σ2 : Store} {w1 w2 w1' w2' : AVal} {r1 r2 r1' r2' ys : List (List AVal)} {E : List (Nat × Ab.Obj)}
theorem Lf.step (h : Lf g gid tid v1 v2 v σ' E σ w1 r1 w2 r2)
    (h2 : Two σ2 1 w1' r1' 1 w2' r2' (E.map (·.1) ++ (objs v ++ [tid, gid]))) (hs : ∀ j ∈ E.map (·.1) ++ (objs v ++ [tid, gid]), σ2.get j = σ.get j) : Lf g gid tid v1 v2 v σ' E σ2 w1' r1' w2' r2' :=
  ⟨h2, by rw [hs gid (by simp), h.hg], by rw [hs tid (by simp), h.ht], fun x hx => by rw [hs x (by simp [hx]), h.hv x hx], fun p hp => by rw [hs p.1 (List.mem_append_left _ (List.mem_map_of_mem hp)), h.he p hp]⟩
theorem Lf.fresh (h : Lf g gid tid v1 v2 v σ' E σ w1 r1 w2 r2) {id : Nat} (hid : σ.get id = none) (o : Ab.Obj) : Lf g gid tid v1 v2 v σ' ((id, o) :: E) (σ.set id o) w1 r1 w2 r2 := by
  have ha := h.two.1.1.right
  have hs : ∀ j ∈ E.map (·.1) ++ (objs v ++ [tid, gid]), (σ.set id o).get j = σ.get j := fun j hj => get_fresh hid (ha j hj)
  refine ⟨h.two.fresh hid o, by rw [hs gid (by simp), h.hg], by rw [hs tid (by simp), h.ht], fun x hx => by rw [hs x (by simp [hx]), h.hv x hx], fun p hp => ?_⟩
  rcases List.mem_cons.1 hp with rfl | hp
  · simp
  · rw [hs p.1 (List.mem_append_left _ (List.mem_map_of_mem hp)), h.he p hp]
theorem Lf.app1 (h : Lf g gid tid v1 v2 v σ' E σ w1 r1 w2 r2) {K : AVal → Store → Prop} (hl : r1.length + ys.length ≤ 1000000)
    (hK : ∀ w σ2, Lf g gid tid v1 v2 v σ' E σ2 w (r1 ++ ys) w2 r2 → K w σ2) : wpResD Try.prog (appendA σ 1 24 w1 ys) K σ := by
  rw [resD_append]
  refine acc_append h.two.1 (by omega) (by omega) fun w σ2 u1 u2 => hK w σ2 (h.step (h.two.first u1 u2) fun j hj => u2 j (List.mem_append_right _ hj))
theorem Lf.app2 (h : Lf g gid tid v1 v2 v σ' E σ w1 r1 w2 r2) {K : AVal → Store → Prop} (hl : r2.length + ys.length ≤ 1000000)
    (hK : ∀ w σ2, Lf g gid tid v1 v2 v σ' E σ2 w1 r1 w (r2 ++ ys) → K w σ2) : wpResD Try.prog (appendA σ 1 24 w2 ys) K σ := by
  rw [resD_append]
  refine acc_append h.two.2 (by omega) (by omega) fun w σ2 u1 u2 => hK w σ2 (h.step (h.two.swap.first u1 u2).swap fun j hj => u2 j (List.mem_append_right _ hj))
end
theorem mild_spf {g : Gr} (hok : g.Ok) {down : List Bool} {x : Int} (hx : 0 ≤ x ∧ x < g.n) : Mild (spfFrom g down x) := by
  rw [spf_eq_ref]
  obtain ⟨hd, hs⟩ := refFrom_spec hok (down := down) hx
  obtain ⟨_, h1, h2, _⟩ := hok
  have hl := hd.len
  have hle := neg_le (refFrom g down x)
  intro y hy
  rcases hs y hy with h | ⟨h3, h4⟩
  · omega
  · exact ⟨by omega, by omega⟩
theorem tnew_ok (g : Gr) : PGood Try.prog 19 [g.val] (newOf g) := by
  refine pgood_of_out 6 (good_of_wp isF19 (Nat.le_refl _) ?_)
  unfold ac19
  simp only [go_sem, simprocAttr, Gr.val]
  intro gid hgid
  simp only [go_sem, simprocAttr]
  refine good_imm (check_ok g) rfl ?_
  simp only [go_sem, simprocAttr]
  have hck := g.check_ok
  by_cases h0 : g.check.2 = 0
  · have hok : g.Ok := hck.1 h0
    obtain ⟨hl, hn1, hn2, _⟩ := id hok
    simp only [go_sem, simprocAttr, h0]
    unfold op19_19
    simp only [go_sem, simprocAttr]
    refine goodD_imm (clone_links_ok g.ls (by omega)) rfl ?_
    simp only [go_sem, simprocAttr]
    intro tid htid
    have f1 := fun o => rowAt_fresh (o := o) htid (j := gid) (ver := 0) (by rw [rowAt_self]; rfl)
    simp only [go_sem, simprocAttr, f1]
    refine loop_rule (NewInv g gid tid) g.n.toNat ?_ ?_
    · have hne : gid ≠ tid := fun e => by rw [e] at hgid; subst e; simp at htid
      refine ⟨0, .nils, .nils, by omega, rfl, rfl, hne, ?_, ?_, ?_⟩
      · rw [Store.get_set_ne _ _ hne]; simp
      · simp
      · have al : Alive ((Store.empty.set gid (.row 0 false 2 [[.sc (.int .i64 g.n), .lst (g.ls.map Lk.row)]])).set tid (.row 0 false 4 [[.sc (.int .i64 g.n), .lst (g.ls.map Lk.row), .nils, .nils]])) [tid, gid] := by
          refine alive_cons (Store.get_set_self _ _ _) (alive_cons (j := gid) (o := .row 0 false 2 [[.sc (.int .i64 g.n), .lst (g.ls.map Lk.row)]]) ?_ alive_nil)
          rw [Store.get_set_ne _ _ hne]; simp
        exact ⟨acc_nils al, acc_nils al⟩
    · rintro m fr σ ⟨i, v1, v2, h1, rfl, rfl, h2, h3, h4, h5⟩
      have r1 := rowAt_get h3
      have r2 := rowAt_get h4
      have hn : ((g.n.toNat : Nat) : Int) = g.n := by omega
      simp only [go_sem, simprocAttr]
      refine .intro (fun h => ?_) (fun h => ?_)
      · simp only [go_sem, simprocAttr, r2]
        refine good_outi (outL3 (out_imm rfl) out_nils out_sc) rfl (spf_to_ok g [] i) ?_
        simp only [go_sem, simprocAttr, r1]
        refine loop_rule (fun m' fr σ' => ∃ (j : Nat) (v : AVal), j ≤ g.n.toNat ∧ m' = g.n.toNat - j ∧ fr = [(1, .ptr gid 0 0 0), (6, .ptr tid 0 0 0), (8, .lst (ints (spfFrom g [] i))), (9, v), (28, .i g.n), (29, .i i), (39, .i g.n), (40, .i j)] ∧
          σ'.get gid = some (.row 0 false 2 [[.sc (.int .i64 g.n), .lst (g.ls.map Lk.row)]]) ∧ σ'.get tid = some (.row 0 false 4 [[.sc (.int .i64 g.n), .lst (g.ls.map Lk.row), v1, v2]]) ∧
          Two σ' 1 v1 (toRowsT g i) 1 v2 (nextRowsT g i) [tid, gid] ∧ Acc σ' 1 v (nextRow g i j) (objs v1 ++ (objs v2 ++ [tid, gid]))) g.n.toNat
          ⟨0, .nils, by omega, rfl, rfl, h3, h4, h5, acc_nils (h5.2.1.left.app h5.1.1)⟩ ?_
        rintro m' fr σ' ⟨j, v, k1, rfl, rfl, k3, k4, k5, k6⟩
        have s1 := rowAt_get k3
        have s2 := rowAt_get k4
        simp only [go_sem, simprocAttr]
        refine .intro (fun h6 => ?_) (fun h6 => ?_)
        · simp only [go_sem, simprocAttr, s2]
          refine good_outi (outL4 (out_imm rfl) out_nils (out_imm rfl) out_sc) rfl (spf_next_ok g [] _ j (mild_spf hok (by omega))) ?_
          simp only [go_sem, simprocAttr]
          intro id2 hid2
          simp only [go_sem, simprocAttr]
          refine acc_append (k6.fresh hid2 _) (by simp only [nextRow_len, List.length_cons, List.length_nil]; omega) (by simp only [nextRow_len, List.length_cons, List.length_nil]; omega) fun v' σ2 q1 q2 => ?_
          have hw : IntKind.i64.wrap ((j : Int) + 1) = ((j + 1 : Nat) : Int) := by rw [wrap_id (by omega) (by omega)]; rfl
          simp only [go_sem, simprocAttr, hw]
          have q3 : ∀ x ∈ objs v1 ++ (objs v2 ++ [tid, gid]), σ2.get x = σ'.get x := fun x hx => by
            rw [q2 x (List.mem_cons_of_mem _ hx), get_fresh hid2 (k6.1 x hx)]
          refine back_of _ ?_ ⟨j + 1, v', by omega, rfl, rfl, ?_, ?_, k5.keep q3, ?_⟩
          · omega
          · rw [q3 gid (by simp), k3]
          · rw [q3 tid (by simp), k4]
          · rw [nextRow_succ]
            exact q1.less fun x hx => List.mem_cons_of_mem _ hx
        · simp only [go_sem, simprocAttr]
          have ej : j = g.n.toNat := by omega
          subst ej
          refine wp_tree (.split 8 12 (.split 8 14 (.leaf [0, 1, 2, 3, 4, 5, 6, 7, 8, 9, 10, 11, 12, 13, 14, 15, 16, 17, 18, 19, 20, 21]) (.leaf [0, 1, 2, 3, 4, 5, 6, 7, 13, 14, 8, 9, 10, 11, 12, 15, 16, 17, 18, 19, 20, 21]))
            (.split 8 14 (.leaf [0, 1, 2, 3, 4, 5, 6, 7, 9, 10, 11, 12, 8, 13, 14, 15, 16, 17, 18, 19, 20, 21]) (.leaf [0, 1, 2, 3, 4, 5, 6, 7, 9, 10, 11, 12, 13, 14, 8, 15, 16, 17, 18, 19, 20, 21]))) (by kernel_rfl) (by kernel_rfl) ?_
          have hO : Two σ' 1 v1 (toRowsT g i) 1 v2 (nextRowsT g i) (objs v ++ [tid, gid]) := k5.more k6.objs_alive fun x hx => by
            have := k6.objs_not x hx
            simp only [List.mem_append, not_or] at this
            exact ⟨this.1, this.2.1⟩
          have L0 : Lf g gid tid v1 v2 v σ' [] σ' v1 (toRowsT g i) v2 (nextRowsT g i) := ⟨hO, k3, k4, fun _ _ => rfl, fun _ h => by cases h⟩
          have hw : IntKind.i64.wrap ((i : Int) + 1) = ((i + 1 : Nat) : Int) := by rw [wrap_id (by omega) (by omega)]; rfl
          have k0 := h2
          have kv := k6.known
          simp only [wpTree_split, wpTree_leaf]
          refine ⟨⟨?_, ?_⟩, ?_, ?_⟩
          · unfold op19_54
            simp only [go_sem, simprocAttr, pickO, List.filterMap_cons, List.filterMap_nil, s2]
            intro a1 ha1
            have L1 := L0.fresh ha1 (.row 0 false 1 [[.lst (ints (spfFrom g [] i))]])
            have r1 := rowAt_get L1.ht
            have e11 := rowAt_get (L1.he (a1, .row 0 false 1 [[.lst (ints (spfFrom g [] i))]]) (by simp))
            simp only [go_sem, simprocAttr, r1, kv, e11]
            refine L1.app1 (by simp only [toRowsT_len, nextRowsT_len, List.length_cons, List.length_nil]; omega) fun w1 σ2 L2 => ?_
            have r2 := rowAt_get L2.ht
            have e21 := rowAt_get (L2.he (a1, .row 0 false 1 [[.lst (ints (spfFrom g [] i))]]) (by simp))
            simp only [go_sem, simprocAttr, r2, kv, e21]
            intro a2 ha2
            have L3 := L2.fresh ha2 (.row 0 false 1 [[v]])
            have r3 := rowAt_get L3.ht
            have e31 := rowAt_get (L3.he (a1, .row 0 false 1 [[.lst (ints (spfFrom g [] i))]]) (by simp))
            have e32 := rowAt_get (L3.he (a2, .row 0 false 1 [[v]]) (by simp))
            simp only [go_sem, simprocAttr, r3, kv, e31, e32]
            refine L3.app2 (by simp only [toRowsT_len, nextRowsT_len, List.length_cons, List.length_nil]; omega) fun w2 σ4 L4 => ?_
            have r4 := rowAt_get L4.ht
            have e41 := rowAt_get (L4.he (a1, .row 0 false 1 [[.lst (ints (spfFrom g [] i))]]) (by simp))
            have e42 := rowAt_get (L4.he (a2, .row 0 false 1 [[v]]) (by simp))
            have kn1 := L4.two.1.known
            have kn2 := L4.two.2.known
            simp only [go_sem, simprocAttr, r4, kv, e41, e42, kn1, kn2, hw]
            exact new_fin (by omega) k0 k6 (L4.two.less fun x hx => List.mem_append_right _ hx) L4.hg L4.hv
          · unfold op19_54
            simp only [go_sem, simprocAttr, pickO, List.filterMap_cons, List.filterMap_nil, s2]
            intro a1 ha1
            have L1 := L0.fresh ha1 (.row 0 false 1 [[.lst (ints (spfFrom g [] i))]])
            have r1 := rowAt_get L1.ht
            have e11 := rowAt_get (L1.he (a1, .row 0 false 1 [[.lst (ints (spfFrom g [] i))]]) (by simp))
            simp only [go_sem, simprocAttr, r1, kv, e11]
            intro a2 ha2
            have L2 := L1.fresh ha2 (.row 0 false 1 [[v]])
            have r2 := rowAt_get L2.ht
            have e21 := rowAt_get (L2.he (a1, .row 0 false 1 [[.lst (ints (spfFrom g [] i))]]) (by simp))
            have e22 := rowAt_get (L2.he (a2, .row 0 false 1 [[v]]) (by simp))
            simp only [go_sem, simprocAttr, r2, kv, e21, e22]
            refine L2.app1 (by simp only [toRowsT_len, nextRowsT_len, List.length_cons, List.length_nil]; omega) fun w1 σ3 L3 => ?_
            have r3 := rowAt_get L3.ht
            have e31 := rowAt_get (L3.he (a1, .row 0 false 1 [[.lst (ints (spfFrom g [] i))]]) (by simp))
            have e32 := rowAt_get (L3.he (a2, .row 0 false 1 [[v]]) (by simp))
            simp only [go_sem, simprocAttr, r3, kv, e31, e32]
            refine L3.app2 (by simp only [toRowsT_len, nextRowsT_len, List.length_cons, List.length_nil]; omega) fun w2 σ4 L4 => ?_
            have r4 := rowAt_get L4.ht
            have e41 := rowAt_get (L4.he (a1, .row 0 false 1 [[.lst (ints (spfFrom g [] i))]]) (by simp))
            have e42 := rowAt_get (L4.he (a2, .row 0 false 1 [[v]]) (by simp))
            have kn1 := L4.two.1.known
            have kn2 := L4.two.2.known
            simp only [go_sem, simprocAttr, r4, kv, e41, e42, kn1, kn2, hw]
            exact new_fin (by omega) k0 k6 (L4.two.less fun x hx => List.mem_append_right _ hx) L4.hg L4.hv
          · unfold op19_54
            simp only [go_sem, simprocAttr, pickO, List.filterMap_cons, List.filterMap_nil, s2]
            intro a1 ha1
            have L1 := L0.fresh ha1 (.row 0 false 1 [[.lst (ints (spfFrom g [] i))]])
            have r1 := rowAt_get L1.ht
            have e11 := rowAt_get (L1.he (a1, .row 0 false 1 [[.lst (ints (spfFrom g [] i))]]) (by simp))
            simp only [go_sem, simprocAttr, r1, kv, e11]
            refine L1.app1 (by simp only [toRowsT_len, nextRowsT_len, List.length_cons, List.length_nil]; omega) fun w1 σ2 L2 => ?_
            have r2 := rowAt_get L2.ht
            have e21 := rowAt_get (L2.he (a1, .row 0 false 1 [[.lst (ints (spfFrom g [] i))]]) (by simp))
            simp only [go_sem, simprocAttr, r2, kv, e21]
            intro a2 ha2
            have L3 := L2.fresh ha2 (.row 0 false 1 [[v]])
            have r3 := rowAt_get L3.ht
            have e31 := rowAt_get (L3.he (a1, .row 0 false 1 [[.lst (ints (spfFrom g [] i))]]) (by simp))
            have e32 := rowAt_get (L3.he (a2, .row 0 false 1 [[v]]) (by simp))
            simp only [go_sem, simprocAttr, r3, kv, e31, e32]
            refine L3.app2 (by simp only [toRowsT_len, nextRowsT_len, List.length_cons, List.length_nil]; omega) fun w2 σ4 L4 => ?_
            have r4 := rowAt_get L4.ht
            have e41 := rowAt_get (L4.he (a1, .row 0 false 1 [[.lst (ints (spfFrom g [] i))]]) (by simp))
            have e42 := rowAt_get (L4.he (a2, .row 0 false 1 [[v]]) (by simp))
            have kn1 := L4.two.1.known
            have kn2 := L4.two.2.known
            simp only [go_sem, simprocAttr, r4, kv, e41, e42, kn1, kn2, hw]
            exact new_fin (by omega) k0 k6 (L4.two.less fun x hx => List.mem_append_right _ hx) L4.hg L4.hv
          · unfold op19_54
            simp only [go_sem, simprocAttr, pickO, List.filterMap_cons, List.filterMap_nil, s2]
            intro a1 ha1
            have L1 := L0.fresh ha1 (.row 0 false 1 [[.lst (ints (spfFrom g [] i))]])
            have r1 := rowAt_get L1.ht
            have e11 := rowAt_get (L1.he (a1, .row 0 false 1 [[.lst (ints (spfFrom g [] i))]]) (by simp))
            simp only [go_sem, simprocAttr, r1, kv, e11]
            intro a2 ha2
            have L2 := L1.fresh ha2 (.row 0 false 1 [[v]])
            have r2 := rowAt_get L2.ht
            have e21 := rowAt_get (L2.he (a1, .row 0 false 1 [[.lst (ints (spfFrom g [] i))]]) (by simp))
            have e22 := rowAt_get (L2.he (a2, .row 0 false 1 [[v]]) (by simp))
            simp only [go_sem, simprocAttr, r2, kv, e21, e22]
            refine L2.app1 (by simp only [toRowsT_len, nextRowsT_len, List.length_cons, List.length_nil]; omega) fun w1 σ3 L3 => ?_
            have r3 := rowAt_get L3.ht
            have e31 := rowAt_get (L3.he (a1, .row 0 false 1 [[.lst (ints (spfFrom g [] i))]]) (by simp))
            have e32 := rowAt_get (L3.he (a2, .row 0 false 1 [[v]]) (by simp))
            simp only [go_sem, simprocAttr, r3, kv, e31, e32]
            refine L3.app2 (by simp only [toRowsT_len, nextRowsT_len, List.length_cons, List.length_nil]; omega) fun w2 σ4 L4 => ?_
            have r4 := rowAt_get L4.ht
            have e41 := rowAt_get (L4.he (a1, .row 0 false 1 [[.lst (ints (spfFrom g [] i))]]) (by simp))
            have e42 := rowAt_get (L4.he (a2, .row 0 false 1 [[v]]) (by simp))
            have kn1 := L4.two.1.known
            have kn2 := L4.two.2.known
            simp only [go_sem, simprocAttr, r4, kv, e41, e42, kn1, kn2, hw]
            exact new_fin (by omega) k0 k6 (L4.two.less fun x hx => List.mem_append_right _ hx) L4.hg L4.hv
      · simp only [go_sem, simprocAttr]
        have ei : i = g.n.toNat := by omega
        subst ei
        have e : newOf g = .tup [g.tab, .i 0] := if_pos h0
        rw [e]
        have i1 : ∀ y ∈ toRowsT g g.n.toNat, ∀ c ∈ y, immA 3 c = true := fun y hy c hc => by
          simp only [toRowsT, List.mem_map] at hy
          obtain ⟨k, _, rfl⟩ := hy
          simp at hc
          subst hc; rfl
        have i2 : ∀ y ∈ nextRowsT g g.n.toNat, ∀ c ∈ y, immA 3 c = true := fun y hy c hc => by
          simp only [nextRowsT, List.mem_map] at hy
          obtain ⟨k, _, rfl⟩ := hy
          simp at hc
          subst hc; rfl
        refine out_tup2 (m := 5) (out_ptr (m := 4) r2 rfl (outL4 out_sc (out_imm rfl) (acc_out_imm h5.1 i1) (acc_out_imm h5.2 i2))) out_sc
  · simp only [go_sem, simprocAttr, h0]
    unfold newOf
    rw [if_neg h0]
    exact out_imm rfl
end Go.Proofs

set_option linter.unusedSimpArgs false
set_option linter.unusedVariables false
namespace Go.Proofs
open Go.Ab

/-- The state behind an edge, if it goes on on a best way. -/
def stepW (g : Gr) (p : List Int) (gone : List Bool) (s : St) (e : Int) : Option St :=
  if s.n + 1 < p.length ∧ (g.ends e).2.2 = true ∧ (g.ends e).1 = s.at_ ∧ e ∈ nextOf g gone (spfFrom g gone (p.getD (s.n + 1) 0)) s.at_ then some (come p (g.ends e).2.1 s.n) else none
def stepV : Option St → AVal
  | some s => .tup [s.val, .b true]
  | none => .tup [.agg [.sc (.int .i64 0), .sc (.int .i64 0)], .b false]
/-- A want's points are nodes. -/
structure PtsOk (g : Gr) (p : List Int) : Prop where
  ok : g.Ok
  pts : ∀ x ∈ p, 0 ≤ x ∧ x < g.n
  len : 2 ≤ p.length ∧ p.length ≤ 6
theorem PtsOk.get {g : Gr} {p : List Int} (h : PtsOk g p) {i : Nat} (hi : i < p.length) : p[i]? = some (p.getD i 0) := by
  rw [List.getD_eq_getElem?_getD, List.getElem?_eq_getElem hi]; rfl
theorem PtsOk.range {g : Gr} {p : List Int} (h : PtsOk g p) {i : Nat} (hi : i < p.length) : 0 ≤ p.getD i 0 ∧ p.getD i 0 < g.n := h.pts _ (List.mem_of_getElem? (h.get hi))
theorem ptsOk_of {g : Gr} {w : Wt} (h : rightOf g w = 0) : PtsOk g w.pts := ⟨(right_facts h).1, (right_facts h).2.1, by have := w.pts_len; have := (right_facts h).2.2; omega⟩

theorem rstep_ok (g : Gr) (p : List Int) (hp : PtsOk g p) (gone : List Bool) (s : St) (hs : s.n ≤ 1000) (e : Int) (he : -1000000000000 ≤ e ∧ e ≤ 1000000000000) : PGood Try.prog 32 [roptV g p gone, s.val, .i e] (stepV (stepW g p gone s e)) := by
  refine pgood_of_out 3 (good_of_wp isF32 (Nat.le_refl _) ?_)
  unfold ac32
  have hpl := hp.len
  simp only [go_sem, simprocAttr, St.val, St.row, roptV]
  intro sid hsid
  simp only [go_sem, simprocAttr]
  intro rid hrid
  have f1 := fun o => rowAt_fresh (o := o) hrid (j := sid) (ver := 0) (by rw [rowAt_self]; rfl)
  simp only [go_sem, simprocAttr]
  have rend := rends_ok g e (by omega)
  simp only [Gr.val] at rend
  refine good_imm rend rfl ?_
  simp only [go_sem, simprocAttr]
  unfold op32_23
  have none_out : stepW g p gone s e = none → ∀ (σ : Store), Out 3 σ (.tup [.agg [.sc (.int .i64 0), .sc (.int .i64 0)], .b false]) (stepV (stepW g p gone s e)) := fun h σ => by rw [h]; exact out_imm rfl
  cases c1 : (g.ends e).2.2 with
  | false =>
    simp only [go_sem, simprocAttr]
    exact none_out (if_neg (fun q => by rw [c1] at q; cases q.2.1)) _
  | true =>
  simp only [go_sem, simprocAttr, f1]
  by_cases c2 : (g.ends e).1 = s.at_
  case neg =>
    simp only [go_sem, simprocAttr, c2]
    exact none_out (if_neg (fun q => c2 q.2.2.1)) _
  have q0 : ¬ ((s.n : Int) < 0) := by omega
  have hwl : IntKind.i64.wrap ((p.length : Int) - 1) = ((p.length - 1 : Nat) : Int) := by rw [wrap_id (by omega) (by omega)]; omega
  simp only [go_sem, simprocAttr, c2, f1, q0, hwl]
  by_cases c3 : ((p.length - 1 : Nat) : Int) ≤ (s.n : Int)
  case pos =>
    simp only [go_sem, simprocAttr, c3]
    exact none_out (if_neg (fun q => by omega)) _
  have hn1 : s.n + 1 < p.length := by omega
  have p1 := hp.get hn1
  have b1 := hp.range hn1
  have hfar : (farRows g gone p)[s.n + 1]? = some [.lst (ints (spfFrom g gone (p.getD (s.n + 1) 0)))] := by unfold farRows; rw [List.getElem?_map, p1]; rfl
  have hwr : IntKind.i64.wrap ((s.n : Int) + 1) = ((s.n + 1 : Nat) : Int) := by rw [wrap_id (by omega) (by omega)]; rfl
  have q1 : (0 : Int) ≤ ((s.n + 1 : Nat) : Int) := by omega
  simp only [go_sem, simprocAttr, c3]
  unfold op32_48
  simp only [go_sem, simprocAttr, f1, hwr, hfar, q1]
  have rnext := ref_next_ok g gone (spfFrom g gone (p.getD (s.n + 1) 0)) s.at_ (mild_spf hp.ok b1)
  simp only [Gr.val] at rnext
  refine goodD_imm rnext rfl ?_
  simp only [go_sem, simprocAttr]
  have hnl : (nextOf g gone (spfFrom g gone (p.getD (s.n + 1) 0)) s.at_).length ≤ 1000 := by
    unfold nextOf
    split
    · have := List.length_filter_le (nextCond g gone (spfFrom g gone (p.getD (s.n + 1) 0)) s.at_) (g.out s.at_)
      have := g.out_len s.at_
      have := hp.ok.1
      omega
    · simp
  have e1 : stepW g p gone s e = if e ∈ nextOf g gone (spfFrom g gone (p.getD (s.n + 1) 0)) s.at_ then some (come p (g.ends e).2.1 s.n) else none := by
    unfold stepW
    by_cases h : e ∈ nextOf g gone (spfFrom g gone (p.getD (s.n + 1) 0)) s.at_
    · rw [if_pos ⟨hn1, c1, c2, h⟩, if_pos h]
    · rw [if_neg (fun q => h q.2.2.2), if_neg h]
  rw [e1]
  generalize nextOf g gone (spfFrom g gone (p.getD (s.n + 1) 0)) s.at_ = nx at *
  have rs0 := (f1 (.row 0 false 2 [[.sc (.int .i64 0), .sc (.int .i64 0)]])).trans rowAt_self
  have rr0 : Ab.rowAt ((Store.empty.set sid (.row 0 false 2 [[.sc (.int .i64 s.at_), .sc (.int .i64 s.n)]])).set rid (.row 0 false 2 [[.sc (.int .i64 0), .sc (.int .i64 0)]])) rid 0 = some (false, 2, [[.sc (.int .i64 0), .sc (.int .i64 0)]]) := rowAt_self
  generalize ((Store.empty.set sid (.row 0 false 2 [[.sc (.int .i64 s.at_), .sc (.int .i64 s.n)]])).set rid (.row 0 false 2 [[.sc (.int .i64 0), .sc (.int .i64 0)]])) = σ0 at *
  refine loop_rule (fun m fr σ => ∃ (i : Nat), i ≤ nx.length ∧ m = nx.length - i ∧ fr = [(0, roptV g p gone), (2, .i e), (4, .ptr sid 0 0 0), (6, .ptr rid 0 0 0), (9, .i (g.ends e).2.1), (11, .lst (ints nx)), (12, .i i)] ∧ σ = σ0 ∧ e ∉ nx.take i) nx.length ⟨0, by omega, rfl, rfl, rfl, by simp⟩ ?_
  rintro m fr σ ⟨i, h1, rfl, rfl, rfl, h2⟩
  have q2 : (0 : Int) ≤ (i : Int) := by omega
  have hwi : IntKind.i64.wrap ((i : Int) + 1) = ((i + 1 : Nat) : Int) := by rw [wrap_id (by omega) (by omega)]; rfl
  simp only [go_sem, simprocAttr]
  refine .intro (fun h => ?_) (fun h => ?_)
  · have hx : nx[i]? = some nx[i] := List.getElem?_eq_getElem (by omega)
    generalize nx[i]'(by omega) = x at *
    have hxi := ints_get hx
    simp only [go_sem, simprocAttr, hxi, q2]
    refine .intro (fun hc => ?_) (fun hc => ?_)
    · simp only [go_sem, simprocAttr]
      unfold op32_79
      simp only [go_sem, simprocAttr, roptV, rs0]
      refine goodD_imm (rcome_ok p (g.ends e).2.1 s.n (by omega) (by omega)) rfl ?_
      have ks : known (come p (g.ends e).2.1 s.n).val = some (come p (g.ends e).2.1 s.n).row := rfl
      have ls : (come p (g.ends e).2.1 s.n).row.length = 2 := rfl
      have ts : List.take 2 (come p (g.ends e).2.1 s.n).row = (come p (g.ends e).2.1 s.n).row := rfl
      simp only [go_sem, simprocAttr, ks, ls, ts, rr0]
      rw [if_pos (by rw [← hc]; exact List.mem_of_getElem? hx)]
      exact out_imm rfl
    · simp only [go_sem, simprocAttr, hwi]
      refine back_of _ (by omega) ⟨i + 1, by omega, rfl, rfl, rfl, ?_⟩
      rw [List.take_add_one, hx]
      simp only [Option.toList_some, List.mem_append, List.mem_singleton, not_or]
      exact ⟨h2, fun q => hc q.symm⟩
  · have ei : nx.take i = nx := List.take_of_length_le (by omega)
    rw [ei] at h2
    simp only [go_sem, simprocAttr, rr0]
    rw [if_neg h2]
    exact out_imm rfl

def hasF (g : Gr) (p : List Int) (gone : List Bool) : List Int → St → Option St
  | [], s => some s
  | e :: r, s => match stepW g p gone s e with
    | some t => hasF g p gone r t
    | none => none
def atGoal (w : Wt) : Option St → Bool
  | some s => decide (s = w.goal)
  | none => false
def hasOf (g : Gr) (w : Wt) (down : List Bool) (es : List Int) : Bool :=
  decide ((costOf g w down).2 = 0) && atGoal w (hasF g w.pts (goneAll g w down) es w.start)
theorem step_n {g : Gr} {p : List Int} {gone : List Bool} {s t : St} {e : Int} (h : stepW g p gone s e = some t) : t.n < p.length := by
  unfold stepW at h
  split at h
  · rename_i h1
    injection h with h
    subst h
    exact comeN_le _ _ _ (by omega)
  · cases h
theorem start_n {w : Wt} : w.start.n < w.pts.length := comeN_le _ _ _ (by rw [w.pts_len]; omega)
theorem hasF_cons (g : Gr) (p : List Int) (gone : List Bool) (e : Int) (r : List Int) (s : St) : hasF g p gone (e :: r) s = match stepW g p gone s e with
    | some t => hasF g p gone r t
    | none => none := rfl
def zero2 : List AVal := [.sc (.int .i64 0), .sc (.int .i64 0)]
def cell2 : Option St → List AVal
  | some s => s.row
  | none => zero2

theorem rhas_ok (g : Gr) (w : Wt) (hw : w.Few) (down : List Bool) (hd : down.length ≤ 1000000) (hg : g.ls.length ≤ 1000000) (es : List Int) (hl : es.length ≤ 1000000) (hes : ∀ e ∈ es, -1000000000000 ≤ e ∧ e ≤ 1000000000000) :
    PGood Try.prog 15 [g.val, w.val, .lst (bools down), .lst (ints es)] (.b (hasOf g w down es)) := by
  refine pgood_of_out 3 (good_of_wp isF15 (Nat.le_refl _) ?_)
  unfold ac15
  simp only [go_sem, simprocAttr, Gr.val, Wt.val]
  have kw : known (AVal.agg w.cells) = some w.cells := rfl
  have lw : w.cells.length = 7 := rfl
  have tw : List.take 7 w.cells = w.cells := rfl
  intro gid hgid
  simp only [go_sem, simprocAttr, kw, lw]
  intro wid hwid
  have f1 := fun o => rowAt_fresh (o := o) hwid (j := gid) (ver := 0) (by rw [rowAt_self]; rfl)
  simp only [go_sem, simprocAttr, f1, lw, tw]
  refine good_imm (newopt_ok g w hw down hd hg) rfl ?_
  have ks : known w.start.val = some w.start.row := rfl
  have ls : w.start.row.length = 2 := rfl
  have ts : List.take 2 w.start.row = w.start.row := rfl
  by_cases h0 : (costOf g w down).2 = 0
  case neg =>
    have e : roptOf g w down = .tup [.nilp, .b false] := if_neg h0
    rw [e]
    simp only [go_sem, simprocAttr, lw, tw]
    refine good_imm (rstart_ok w hw) rfl ?_
    simp only [go_sem, simprocAttr]
    intro sid hsid
    simp only [go_sem, simprocAttr, ks, ls, ts]
    refine loop_rule (fun m fr σ => ∃ t, fr = [(3, .lst (ints es)), (5, .ptr wid 0 0 0), (9, t), (10, .b false), (11, .ptr sid 0 0 0), (12, .i 0)]) 0 ⟨_, rfl⟩ ?_
    rintro m fr σ ⟨t, rfl⟩
    have hno : hasOf g w down es = false := by unfold hasOf; rw [decide_eq_false h0]; rfl
    rw [hno]
    by_cases hlt : (0 : Int) < (es.length : Int)
    · simp only [go_sem, simprocAttr, hlt]
      unfold op15_41
      simp only [go_sem, simprocAttr]
      exact out_imm rfl
    · simp only [go_sem, simprocAttr, hlt]
      unfold op15_41
      simp only [go_sem, simprocAttr]
      exact out_imm rfl
  have e : roptOf g w down = .tup [roptV g w.pts (goneAll g w down), .b true] := if_pos h0
  rw [e]
  have hpo := ptsOk_of (cost_right h0)
  have hh : hasOf g w down es = atGoal w (hasF g w.pts (goneAll g w down) es w.start) := by unfold hasOf; rw [decide_eq_true h0]; rfl
  rw [hh]
  generalize goneAll g w down = gone at *
  simp only [go_sem, simprocAttr, lw, tw]
  refine good_imm (rstart_ok w hw) rfl ?_
  simp only [go_sem, simprocAttr]
  intro sid hsid
  have hws : wid ≠ sid := fun e => by rw [← e] at hsid; simp at hsid
  simp only [go_sem, simprocAttr, ks, ls, ts]
  refine loop_rule (fun m fr σ => ∃ (i : Nat) (o : Option St), i ≤ es.length ∧ m = es.length - i ∧ fr = [(3, .lst (ints es)), (5, .ptr wid 0 0 0), (9, roptV g w.pts gone), (10, .b o.isSome), (11, .ptr sid 0 0 0), (12, .i i)] ∧
      σ.get sid = some (.row 0 false 2 [cell2 o]) ∧ σ.get wid = some (.row 0 false 7 [w.cells]) ∧ (∀ s, o = some s → s.n < w.pts.length ∧ hasF g w.pts gone es w.start = hasF g w.pts gone (es.drop i) s) ∧ (o = none → hasF g w.pts gone es w.start = none)) es.length
    ⟨0, some w.start, by omega, rfl, rfl, by rw [Store.get_set_self]; rfl, by rw [Store.get_set_ne _ _ hws, Store.get_set_self], ?_, fun h => by cases h⟩ ?_
  · intro s hs
    injection hs with hs
    subst hs
    exact ⟨start_n, rfl⟩
  rintro m fr σ ⟨i, o, h1, rfl, rfl, h2, h3, h4, h5⟩
  have rs := rowAt_get h2
  have rw_ := rowAt_get h3
  have q0 : (0 : Int) ≤ (i : Int) := by omega
  have hwi : IntKind.i64.wrap ((i : Int) + 1) = ((i + 1 : Nat) : Int) := by rw [wrap_id (by omega) (by omega)]; rfl
  have fin : (¬ (i : Int) < (es.length : Int) ∨ o = none) → ∀ (b : Bool), b = atGoal w o → Out 3 σ (.b b) (.b (atGoal w (hasF g w.pts gone es w.start))) := by
    rintro hc b rfl
    cases o with
    | none => rw [h5 rfl]; exact out_imm rfl
    | some s =>
      rcases hc with hc | hc
      · obtain ⟨_, k2⟩ := h4 s rfl
        rw [List.drop_eq_nil_of_le (by omega)] at k2
        rw [k2]
        exact out_imm rfl
      · cases hc
  cases o with
  | none =>
    by_cases hlt : (i : Int) < (es.length : Int)
    · simp only [go_sem, simprocAttr, hlt, Option.isSome_none]
      unfold op15_41
      simp only [go_sem, simprocAttr]
      exact fin (.inr rfl) _ rfl
    · simp only [go_sem, simprocAttr, hlt, Option.isSome_none]
      unfold op15_41
      simp only [go_sem, simprocAttr]
      exact fin (.inr rfl) _ rfl
  | some s =>
    obtain ⟨k1, k2⟩ := h4 s rfl
    have hpl := hpo.len
    have lsr : (cell2 (some s)).length = 2 := rfl
    have tsr : List.take 2 (cell2 (some s)) = s.row := rfl
    by_cases hlt : (i : Int) < (es.length : Int)
    · have hx : es[i]? = some es[i] := List.getElem?_eq_getElem (by omega)
      have hd := drop_of_get hx
      generalize es[i]'(by omega) = x at *
      have hxi := ints_get hx
      simp only [go_sem, simprocAttr, hlt, Option.isSome_some]
      unfold op15_32
      simp only [go_sem, simprocAttr, rs, lsr, tsr, hxi, q0]
      refine goodD_imm (rstep_ok g w.pts hpo gone s (by omega) x (hes x (List.mem_of_getElem? hx))) rfl ?_
      rw [hd, hasF_cons] at k2
      cases hst : stepW g w.pts gone s x with
      | none =>
        simp only [go_sem, simprocAttr, stepV, rs, lsr, hwi]
        rw [hst] at k2
        have e2 : List.drop 2 (cell2 (some s)) = [] := rfl
        simp only [e2, List.append_nil]
        refine back_of _ (by omega) ⟨i + 1, none, by omega, rfl, rfl, by rw [Store.get_set_self]; rfl, by rw [Store.get_set_ne _ _ hws, h3], fun s h => (by cases h), fun _ => k2⟩
      | some t =>
        have kt : known t.val = some t.row := rfl
        have lt : t.row.length = 2 := rfl
        have e2 : List.drop 2 (cell2 (some s)) = [] := rfl
        simp only [go_sem, simprocAttr, stepV, rs, lsr, kt, lt, hwi]
        rw [hst] at k2
        simp only [e2, List.append_nil]
        refine back_of _ (by omega) ⟨i + 1, some t, by omega, rfl, rfl, by rw [Store.get_set_self]; rfl, by rw [Store.get_set_ne _ _ hws, h3], ?_, fun h => by cases h⟩
        intro s' hs'
        injection hs' with hs'
        subst hs'
        exact ⟨step_n hst, k2⟩
    · simp only [go_sem, simprocAttr, hlt, Option.isSome_some]
      unfold op15_41
      simp only [go_sem, simprocAttr, rs, rw_, lsr, tsr, lw, tw]
      refine goodD_imm (rgoal_ok w hw) rfl ?_
      simp only [go_sem, simprocAttr, St.val, St.row, Wt.goal]
      refine fin (.inl hlt) _ ?_
      obtain ⟨sa, sn⟩ := s
      simp only [atGoal, St.mk.injEq, Wt.goal]
      rw [Bool.eq_iff_iff]
      simp only [Bool.and_eq_true, beq_iff_eq, decide_eq_true_eq]
      omega
end Go.Proofs

set_option linter.unusedSimpArgs false
set_option linter.unusedVariables false
namespace Go.Proofs
open Go.Ab

def waysV (g : Gr) (p : List Int) (gone : List Bool) (c : Int) : AVal := .iptr [.sc (.int .i64 g.n), .lst (g.ls.map Lk.row), .lst (ints p), .lst (bools gone), .lst (farRows g gone (p.drop 1)), .sc (.int .i64 c)] 0
def waysOf (g : Gr) (w : Wt) (down : List Bool) : AVal := if (costOf g w down).2 = 0 then .tup [waysV g w.pts (goneAll g w down) (costOf g w down).1, .i 0] else .tup [.nilp, .i (costOf g w down).2]

def WaysLoop (g : Gr) (w : Wt) (gone : List Bool) (gid wid oid : Nat) (m : Nat) (fr : Fr) (σ : Store) : Prop :=
  ∃ (i : Nat) (v : AVal) (c : Int), i ≤ w.via.length + 1 ∧ m = w.via.length + 1 - i ∧ fr = [(3, .ptr gid 0 0 0), (4, .ptr wid 0 0 0), (9, .ptr oid 0 0 0), (33, .lst (ints (w.pts.drop 1))), (34, .i (w.via.length + 1 : Nat)), (35, .i i)] ∧
    σ.get gid = some (.row 0 false 2 [[.sc (.int .i64 g.n), .lst (g.ls.map Lk.row)]]) ∧ σ.get wid = some (.row 0 false 7 [w.cells]) ∧
    σ.get oid = some (.row 0 false 6 [[.sc (.int .i64 g.n), .lst (g.ls.map Lk.row), .lst (ints w.pts), .lst (bools gone), v, .sc (.int .i64 c)]]) ∧
    sumF (farAt g gone w.pts) i = some c ∧ 0 ≤ c ∧ c ≤ i * 671088640 ∧ Acc σ 1 v (farRows g gone ((w.pts.drop 1).take i)) [oid, gid, wid]

theorem ways_ok (g : Gr) (w : Wt) (hw : w.Few) (down : List Bool) (hd : down.length ≤ 1000000) (hg : g.ls.length ≤ 1000000) : PGood Try.prog 42 [g.val, w.val, .lst (bools down)] (waysOf g w down) := by
  refine pgood_of_out 5 (good_of_wp isF42 (Nat.le_refl _) ?_)
  unfold ac42
  simp only [go_sem, simprocAttr, Gr.val, Wt.val]
  have kw : known (AVal.agg w.cells) = some w.cells := rfl
  have lw : w.cells.length = 7 := rfl
  have tw : List.take 7 w.cells = w.cells := rfl
  intro gid hgid
  simp only [go_sem, simprocAttr, kw, lw]
  intro wid hwid
  have f1 := fun o => rowAt_fresh (o := o) hwid (j := gid) (ver := 0) (by rw [rowAt_self]; rfl)
  have hgw : gid ≠ wid := fun e => by rw [← e] at hwid; simp at hwid
  simp only [go_sem, simprocAttr, f1, lw, tw]
  refine good_imm (right_want_ok g w hw) rfl ?_
  simp only [go_sem, simprocAttr]
  by_cases h0 : rightOf g w = 0
  case neg =>
    simp only [go_sem, simprocAttr, h0]
    have e : costOf g w down = (0, rightOf g w) := if_neg h0
    unfold waysOf
    rw [e, if_neg h0]
    exact out_imm rfl
  obtain ⟨hok, hpts, hvia⟩ := right_facts h0
  have hpl := w.pts_len
  have hpo := ptsOk_of h0
  have e2 : costOf g w down = match sumF (farAt g (goneAll g w down) w.pts) (w.via.length + 1) with
    | none => (0, 8)
    | some c => if 0 < w.bound ∧ w.bound < c then (0, 8) else (c, 0) := if_pos h0
  simp only [go_sem, simprocAttr, h0]
  unfold op42_20
  simp only [go_sem, simprocAttr, f1, lw, tw]
  refine goodD_imm (points_ok w hw) rfl ?_
  simp only [go_sem, simprocAttr, f1, lw, tw]
  refine goodD_imm (down_want_ok g w hw down hd hg) rfl ?_
  have e : prunedOf g w down = goneAll g w down := if_pos h0
  rw [e]
  unfold waysOf
  generalize goneAll g w down = gone at *
  simp only [go_sem, simprocAttr]
  intro oid hoid
  have hgo : gid ≠ oid := fun e => by rw [← e] at hoid; rw [Store.get_set_ne _ _ hgw] at hoid; simp at hoid
  have hwo : wid ≠ oid := fun e => by rw [← e] at hoid; simp at hoid
  have q1 : (1 : Int) ≤ (w.pts.length : Int) := by omega
  have qs : List.take (w.pts.length - 1) (List.drop 1 (ints w.pts)) = ints (w.pts.drop 1) := by
    simp only [ints, ← List.map_drop]
    rw [List.take_of_length_le (by simp)]
  have ql : ((w.pts.drop 1).length : Int) = ((w.via.length + 1 : Nat) : Int) := by rw [List.length_drop]; omega
  have q01 : (0 : Int) ≤ 1 := by omega
  have qt : Int.toNat 1 = 1 := rfl
  simp only [go_sem, simprocAttr, q1, q01, ints_all, qt, qs, ql, Int.le_refl]
  refine loop_rule (WaysLoop g w gone gid wid oid) (w.via.length + 1) ⟨0, .nils, 0, by omega, rfl, rfl, ?_, ?_, ?_, rfl, by omega, by omega, ?_⟩ ?_
  · rw [Store.get_set_ne _ _ hgo, Store.get_set_ne _ _ hgw]; simp
  · rw [Store.get_set_ne _ _ hwo]; simp
  · rw [Store.get_set_self]
  · exact acc_nils (alive_cons (Store.get_set_self _ _ _) (alive_cons (by rw [Store.get_set_ne _ _ hgo, Store.get_set_ne _ _ hgw]; exact Store.get_set_self _ _ _) (alive_cons (by rw [Store.get_set_ne _ _ hwo]; exact Store.get_set_self _ _ _) alive_nil)))
  rintro m fr σ ⟨i, v, c, h1, rfl, rfl, h2, h3, h4, h5, h6, h7, h8⟩
  have rg := rowAt_get h2
  have rw_ := rowAt_get h3
  have ro := rowAt_get h4
  have hwr : IntKind.i64.wrap ((i : Int) + 1) = ((i + 1 : Nat) : Int) := by rw [wrap_id (by omega) (by omega)]; rfl
  have q0 : (0 : Int) ≤ (i : Int) := by omega
  have hw2 : w.cells[2]? = some (.sc (.int .i64 w.bound)) := rfl
  simp only [go_sem, simprocAttr]
  refine .intro (fun h => ?_) (fun h => ?_)
  · have hi : i < w.pts.length := by omega
    have hi1 : i + 1 < w.pts.length := by omega
    have p0 := ints_get (hpo.get hi)
    have p1 : (ints (w.pts.drop 1))[i]? = some [.sc (.int .i64 (w.pts.getD (i + 1) 0))] := ints_get (by rw [List.getElem?_drop, Nat.add_comm 1 i]; exact hpo.get hi1)
    have b0 := hpo.range hi
    have b1 := hpo.range hi1
    simp only [go_sem, simprocAttr, p1, q0]
    unfold op42_40
    simp only [go_sem, simprocAttr, rg, ro]
    refine goodD_imm (spf_to_ok g gone _) rfl ?_
    have hx := ints_get (at0_get (l := spfFrom g gone (w.pts.getD (i + 1) 0)) b0.1 (by rw [spf_len hok b1]; omega))
    have hsym : at0 (spfFrom g gone (w.pts.getD (i + 1) 0)) (w.pts.getD i 0) = farAt g gone w.pts i := dist_sym hok b1 b0
    have hfb := far_bound g gone (w.pts.getD i 0) (w.pts.getD (i + 1) 0)
    have hfe : at0 (spfFrom g gone (w.pts.getD i 0)) (w.pts.getD (i + 1) 0) = farAt g gone w.pts i := rfl
    rw [hfe] at hfb
    rw [hsym] at hx
    simp only [go_sem, simprocAttr, ro, p0, q0, b0, hx]
    refine .intro (fun hn => ?_) (fun hn => ?_)
    · simp only [go_sem, simprocAttr]
      have hs : sumF (farAt g gone w.pts) (i + 1) = none := by simp [sumF, h5, hn]
      rw [e2, sumF_none hs _ (by omega)]
      exact out_imm rfl
    · have hwc : IntKind.i64.wrap (c + farAt g gone w.pts i) = c + farAt g gone w.pts i := wrap_id (by omega) (by omega)
      simp only [go_sem, simprocAttr, ro]
      intro lid hlid
      simp only [go_sem, simprocAttr]
      refine acc_append (h8.fresh hlid _) (by simp only [farRows, List.length_map, List.length_take, List.length_cons, List.length_nil, List.length_drop]; omega) (by simp only [farRows, List.length_map, List.length_take, List.length_cons, List.length_nil, List.length_drop]; omega) fun v' σ' k1 k2 => ?_
      have g1 : σ'.get oid = _ := (k2 oid (by simp)).trans ((get_fresh hlid (by rw [h4]; rfl)).trans h4)
      have g2 : σ'.get gid = _ := (k2 gid (by simp)).trans ((get_fresh hlid (by rw [h2]; rfl)).trans h2)
      have g3 : σ'.get wid = _ := (k2 wid (by simp)).trans ((get_fresh hlid (by rw [h3]; rfl)).trans h3)
      have ro' := rowAt_get g1
      have kn := k1.known
      simp only [go_sem, simprocAttr, ro', kn, hwr, hwc]
      refine back_of _ ?_ ⟨i + 1, v', c + farAt g gone w.pts i, by omega, rfl, rfl, ?_, ?_, ?_, ?_, by omega, by omega, ?_⟩
      · omega
      · rw [Store.get_set_ne _ _ hgo, g2]
      · rw [Store.get_set_ne _ _ hwo, g3]
      · rw [Store.get_set_self]
      · simp [sumF, h5, hn]
      · have er : farRows g gone ((w.pts.drop 1).take (i + 1)) = farRows g gone ((w.pts.drop 1).take i) ++ [[.lst (ints (spfFrom g gone (w.pts.getD (i + 1) 0)))]] := by
          rw [List.take_add_one, List.getElem?_drop, Nat.add_comm 1 i, hpo.get hi1]
          simp [farRows]
        rw [er]
        exact (k1.less (o2 := [oid, gid, wid]) (by simp)).other (by simp) _
  · have ei : i = w.via.length + 1 := by omega
    rw [ei] at h5
    rw [h5] at e2
    simp only at e2
    have et : (w.pts.drop 1).take i = w.pts.drop 1 := List.take_of_length_le (by rw [List.length_drop]; omega)
    rw [et] at h8
    have i1 : ∀ y ∈ farRows g gone (w.pts.drop 1), ∀ c ∈ y, immA 2 c = true := fun y hy c hc => by
      simp only [farRows, List.mem_map] at hy
      obtain ⟨k, _, rfl⟩ := hy
      simp at hc
      subst hc; rfl
    have good : costOf g w down = (c, 0) → Out 5 σ (.tup [.ptr oid 0 0 0, .i 0]) (if (costOf g w down).2 = 0 then .tup [waysV g w.pts gone (costOf g w down).1, .i 0] else .tup [.nilp, .i (costOf g w down).2]) := fun h => by
      rw [h, if_pos rfl]
      exact out_tup2 (m := 4) (out_ptr (m := 3) ro rfl ⟨out_sc, out_imm rfl, out_imm rfl, out_imm rfl, acc_out_imm h8 i1, out_sc, trivial⟩) out_sc
    simp only [go_sem, simprocAttr]
    unfold op42_78
    simp only [go_sem, simprocAttr, rw_, hw2]
    by_cases hb : 0 < w.bound
    · simp only [go_sem, simprocAttr, hb, rw_, ro, hw2]
      by_cases hc : w.bound < c
      · simp only [go_sem, simprocAttr, hc]
        rw [if_pos ⟨hb, hc⟩] at e2
        rw [e2]
        exact out_imm rfl
      · simp only [go_sem, simprocAttr, hc]
        rw [if_neg (fun q => hc q.2)] at e2
        exact good e2
    · simp only [go_sem, simprocAttr, hb]
      rw [if_neg (fun q => hb q.1)] at e2
      exact good e2

theorem ends_is {g : Gr} {e : Int} : (g.ends e).2.2 = true ↔ 0 ≤ e ∧ e < 2 * (g.ls.length : Int) := by
  unfold Gr.ends
  split
  · simp; omega
  · rename_i h
    cases hl : g.ls[(e / 2).toNat]? with
    | none => rw [List.getElem?_eq_none_iff] at hl; simp; omega
    | some l => simp only; split <;> simp <;> omega
theorem mem_next {g : Gr} (hg : g.Ok) {gone : List Bool} {t node e : Int} (ht : 0 ≤ t ∧ t < g.n) : e ∈ nextOf g gone (spfFrom g gone t) node ↔
    (0 ≤ node ∧ node < g.n) ∧ (0 ≤ e ∧ e < 2 * (g.ls.length : Int)) ∧ (g.ends e).1 = node ∧ isUp gone e = true ∧ 0 ≤ at0 (spfFrom g gone t) (g.ends e).2.1 ∧ at0 (spfFrom g gone t) node = at0 (spfFrom g gone t) (g.ends e).2.1 + g.metric e := by
  have hc := g.check_ok.2 hg
  have hl := spf_len hg (d := gone) ht
  constructor
  · intro h
    unfold nextOf at h
    split at h
    · rename_i hh
      obtain ⟨h1, h2⟩ := List.mem_filter.1 h
      obtain ⟨m1, m2, m3⟩ := Gr.mem_out h1
      simp only [nextCond, Bool.and_eq_true, decide_eq_true_eq] at h2
      exact ⟨hh.2.2.1, ⟨m1, m2⟩, m3, h2.1, h2.2.1, h2.2.2⟩
    · cases h
  · rintro ⟨h1, h2, h3, h4, h5, h6⟩
    have hm := g.metric_of hg h2.1 h2.2
    unfold nextOf
    rw [if_pos ⟨hc, by rw [hl]; omega, h1, by omega⟩]
    refine List.mem_filter.2 ⟨Gr.out_mem h2.1 h2.2 h3, ?_⟩
    simp only [nextCond, Bool.and_eq_true, decide_eq_true_eq]
    exact ⟨h4, h5, h6⟩

theorem wstep_ok (g : Gr) (p : List Int) (hp : PtsOk g p) (gone : List Bool) (c : Int) (s : St) (hs : s.n ≤ 1000) (e : Int) (he : -1000000000000 ≤ e ∧ e ≤ 1000000000000) : PGood Try.prog 67 [waysV g p gone c, s.val, .i e] (stepV (stepW g p gone s e)) := by
  refine pgood_of_out 3 (good_of_wp isF67 (Nat.le_refl _) ?_)
  unfold ac67
  have hpl := hp.len
  have hok := hp.ok
  simp only [go_sem, simprocAttr, St.val, St.row, waysV]
  intro sid hsid
  simp only [go_sem, simprocAttr]
  intro rid hrid
  have f1 := fun o => rowAt_fresh (o := o) hrid (j := sid) (ver := 0) (by rw [rowAt_self]; rfl)
  have rs0 := (f1 (.row 0 false 2 [[.sc (.int .i64 0), .sc (.int .i64 0)]])).trans rowAt_self
  have rr0 : Ab.rowAt ((Store.empty.set sid (.row 0 false 2 [[.sc (.int .i64 s.at_), .sc (.int .i64 s.n)]])).set rid (.row 0 false 2 [[.sc (.int .i64 0), .sc (.int .i64 0)]])) rid 0 = some (false, 2, [[.sc (.int .i64 0), .sc (.int .i64 0)]]) := rowAt_self
  generalize ((Store.empty.set sid (.row 0 false 2 [[.sc (.int .i64 s.at_), .sc (.int .i64 s.n)]])).set rid (.row 0 false 2 [[.sc (.int .i64 0), .sc (.int .i64 0)]])) = σ0 at *
  simp only [go_sem, simprocAttr]
  unfold op67_14
  have q0 : ¬ ((s.n : Int) < 0) := by omega
  have hwl : IntKind.i64.wrap ((p.length : Int) - 1) = ((p.length - 1 : Nat) : Int) := by rw [wrap_id (by omega) (by omega)]; omega
  have none_out : stepW g p gone s e = none → ∀ (σ : Store), Out 3 σ (.tup [.agg [.sc (.int .i64 0), .sc (.int .i64 0)], .b false]) (stepV (stepW g p gone s e)) := fun h σ => by rw [h]; exact out_imm rfl
  simp only [go_sem, simprocAttr, rs0, q0, hwl]
  by_cases c3 : ((p.length - 1 : Nat) : Int) ≤ (s.n : Int)
  case pos =>
    simp only [go_sem, simprocAttr, c3, rr0]
    exact none_out (if_neg (fun q => by omega)) _
  have hn1 : s.n + 1 < p.length := by omega
  have p1 := ints_get (hp.get hn1)
  have b1 := hp.range hn1
  simp only [go_sem, simprocAttr, c3]
  refine good_imm (is_ok g.n _ s.at_) rfl ?_
  by_cases c4 : 0 ≤ s.at_ ∧ s.at_ < g.n
  case neg =>
    simp only [go_sem, simprocAttr, c4, rr0]
    exact none_out (if_neg (fun q => c4 ((mem_next hok b1).1 q.2.2.2).1)) _
  have hwr : IntKind.i64.wrap ((s.n : Int) + 1) = ((s.n + 1 : Nat) : Int) := by rw [wrap_id (by omega) (by omega)]; rfl
  have q1 : (0 : Int) ≤ ((s.n + 1 : Nat) : Int) := by omega
  have q2 : (0 : Int) ≤ (s.n : Int) := by omega
  have hD : (spfFrom g gone (p.getD (s.n + 1) 0)).length = g.n.toNat := spf_len hok b1
  have hsrc := (spfFrom_dist hok (down := gone) b1).src
  simp only [go_sem, simprocAttr, c4, hwr, p1, q1]
  refine .intro (fun c5 => ?_) (fun c5 => ?_)
  · simp only [go_sem, simprocAttr, rr0]
    refine none_out (if_neg (fun q => ?_)) _
    obtain ⟨_, k2, _, _, k5, k6⟩ := (mem_next hok b1).1 q.2.2.2
    have := g.metric_of hok k2.1 k2.2
    rw [← c5, hsrc] at k6
    omega
  have rend := ends_ok g e (by omega)
  simp only [Gr.val] at rend
  simp only [go_sem, simprocAttr]
  refine good_imm rend rfl ?_
  have hfar : (farRows g gone (p.drop 1))[s.n]? = some [.lst (ints (spfFrom g gone (p.getD (s.n + 1) 0)))] := by
    unfold farRows
    rw [List.getElem?_map, List.getElem?_drop, Nat.add_comm 1 s.n, hp.get hn1]
    rfl
  simp only [go_sem, simprocAttr, hfar, q2]
  unfold op67_73
  cases c1 : (g.ends e).2.2 with
  | false =>
    simp only [go_sem, simprocAttr, rr0]
    exact none_out (if_neg (fun q => by rw [c1] at q; cases q.2.1)) _
  | true =>
  obtain ⟨he0, he1⟩ := ends_is.1 c1
  have hends := g.ends_of hok he0 he1
  have hmet := g.metric_of hok he0 he1
  by_cases c2 : (g.ends e).1 = s.at_
  case neg =>
    simp only [go_sem, simprocAttr, c2, rr0]
    exact none_out (if_neg (fun q => c2 q.2.2.1)) _
  simp only [go_sem, simprocAttr, c2]
  refine goodD_imm (up_ok gone e he0 (by omega)) rfl ?_
  cases c6 : isUp gone e with
  | false =>
    simp only [go_sem, simprocAttr, rr0]
    exact none_out (if_neg (fun q => by have := ((mem_next hok b1).1 q.2.2.2).2.2.2.1; rw [c6] at this; cases this)) _
  | true =>
  have xe := ints_get (at0_get (l := spfFrom g gone (p.getD (s.n + 1) 0)) hends.2.1.1 (by rw [hD]; omega))
  have xs := ints_get (at0_get (l := spfFrom g gone (p.getD (s.n + 1) 0)) c4.1 (by rw [hD]; omega))
  have be := hends.2.1
  simp only [go_sem, simprocAttr, xe, be]
  by_cases c7 : at0 (spfFrom g gone (p.getD (s.n + 1) 0)) (g.ends e).2.1 < 0
  case pos =>
    simp only [go_sem, simprocAttr, c7, rr0]
    exact none_out (if_neg (fun q => by have := ((mem_next hok b1).1 q.2.2.2).2.2.2.2.1; omega)) _
  have hlk : (g.ls.map Lk.row)[(e / 2).toNat]? = some [.sc (.int .i64 ((g.ls.getD (e / 2).toNat ⟨0, 0, 0, 0⟩).a)), .sc (.int .i64 ((g.ls.getD (e / 2).toNat ⟨0, 0, 0, 0⟩).b)), .sc (.int .i64 (g.metric e)), .sc (.int .i64 ((g.ls.getD (e / 2).toNat ⟨0, 0, 0, 0⟩).c))] := by
    have hi : (e / 2).toNat < g.ls.length := by omega
    have hg := List.getElem?_eq_getElem hi
    rw [List.getElem?_map, hg]
    simp only [Option.map_some, Lk.row, Gr.metric, List.getD_eq_getElem?_getD, hg, Option.getD_some]
  have htd : Int.tdiv e 2 = e / 2 := by rw [Int.tdiv_eq_ediv_of_nonneg he0]
  have hwd : IntKind.i64.wrap (e / 2) = e / 2 := wrap_id (by omega) (by omega)
  have qd : (0 : Int) ≤ e / 2 := by omega
  have hfb := far_bound g gone (p.getD (s.n + 1) 0) (g.ends e).2.1
  have hwm : IntKind.i64.wrap (at0 (spfFrom g gone (p.getD (s.n + 1) 0)) (g.ends e).2.1 + g.metric e) = at0 (spfFrom g gone (p.getD (s.n + 1) 0)) (g.ends e).2.1 + g.metric e := wrap_id (by omega) (by omega)
  have c20 : ¬ ((2 : Int) = 0) := by omega
  simp only [go_sem, simprocAttr, c7, xe, xs, be, c4, hlk, htd, hwd, qd, hwm, c20]
  refine .intro (fun c8 => ?_) (fun c8 => ?_)
  · simp only [go_sem, simprocAttr, waysV]
    refine good_imm (come_ok p (g.ends e).2.1 s.n (by omega) (by omega)) rfl ?_
    have ks : known (come p (g.ends e).2.1 s.n).val = some (come p (g.ends e).2.1 s.n).row := rfl
    have ls : (come p (g.ends e).2.1 s.n).row.length = 2 := rfl
    have ts : List.take 2 (come p (g.ends e).2.1 s.n).row = (come p (g.ends e).2.1 s.n).row := rfl
    simp only [go_sem, simprocAttr, ks, ls, ts, rr0]
    have : stepW g p gone s e = some (come p (g.ends e).2.1 s.n) := if_pos ⟨hn1, c1, c2, (mem_next hok b1).2 ⟨c4, ⟨he0, he1⟩, c2, c6, by omega, c8⟩⟩
    rw [this]
    exact out_imm rfl
  · simp only [go_sem, simprocAttr, rr0]
    exact none_out (if_neg (fun q => c8 ((mem_next hok b1).1 q.2.2.2).2.2.2.2.2)) _
end Go.Proofs

set_option linter.unusedSimpArgs false
set_option linter.unusedVariables false
namespace Go.Proofs
open Go.Ab

/-! ### expand -/
def mapV (g : Gr) (p : List Int) (gone : List Bool) (c : Int) : AVal := .iptr [g.tab, .sc (.int .i64 g.n), .lst (g.ls.map Lk.row), waysV g p gone c] 0
def bRow (r : List Bool) : List AVal := r.map fun b => .sc (.bool b)
def stRows (L : List (List Bool)) : List (List AVal) := L.map bRow
theorem stRows_get {L : List (List Bool)} {i : Nat} {r : List Bool} (h : L[i]? = some r) : (stRows L)[i]? = some (bRow r) := by simp [stRows, h]
theorem bRow_get {r : List Bool} {i : Nat} {b : Bool} (h : r[i]? = some b) : (bRow r)[i]? = some (.sc (.bool b)) := by simp [bRow, h]
theorem bRow_set (r : List Bool) (i : Nat) (b : Bool) (h : i < r.length) : List.take i (bRow r) ++ [.sc (.bool b)] ++ List.drop (i + 1) (bRow r) = bRow (r.set i b) := by
  rw [List.set_eq_take_append_cons_drop, if_pos h]
  simp [bRow, List.map_take, List.map_drop]
theorem stRows_set (L : List (List Bool)) (i : Nat) (r : List Bool) : (stRows L).set i (bRow r) = stRows (L.set i r) := by simp [stRows, List.map_set]

/-- Sets of states: of each node the numbers. -/
def inS (L : List (List Bool)) (s : St) : Bool := (L.getD s.at_.toNat []).getD s.n false
def setS (L : List (List Bool)) (s : St) : List (List Bool) := L.set s.at_.toNat ((L.getD s.at_.toNat []).set s.n true)
structure LOk (g : Gr) (L : List (List Bool)) : Prop where
  len : L.length = g.n.toNat
  row : ∀ r ∈ L, r.length = 6
theorem LOk.get {g : Gr} {L : List (List Bool)} (h : LOk g L) {x : Int} (h0 : 0 ≤ x) (h1 : x < g.n) : L[x.toNat]? = some (L.getD x.toNat []) ∧ (L.getD x.toNat []).length = 6 := by
  have hl : x.toNat < L.length := by rw [h.len]; omega
  have e : L[x.toNat]? = some (L.getD x.toNat []) := by rw [List.getD_eq_getElem?_getD, List.getElem?_eq_getElem hl]; rfl
  exact ⟨e, h.row _ (List.mem_of_getElem? e)⟩
theorem LOk.set {g : Gr} {L : List (List Bool)} (h : LOk g L) {s : St} (h0 : 0 ≤ s.at_) (h1 : s.at_ < g.n) : LOk g (setS L s) := by
  refine ⟨by simp [setS, h.len], fun r hr => ?_⟩
  rcases List.mem_or_eq_of_mem_set hr with hr | rfl
  · exact h.row r hr
  · rw [List.length_set]; exact (h.get h0 h1).2
theorem step_ok_range {g : Gr} {p : List Int} (hp : PtsOk g p) {gone : List Bool} {s t : St} {e : Int} (h : stepW g p gone s e = some t) : (0 ≤ t.at_ ∧ t.at_ < g.n) ∧ t.n < p.length ∧ (g.ends e).1 = s.at_ ∧ (g.ends e).2.1 = t.at_ ∧ (0 ≤ e ∧ e < 2 * (g.ls.length : Int)) := by
  have hn := step_n h
  unfold stepW at h
  split at h
  · rename_i hc
    injection h with h
    subst h
    have he := ends_is.1 hc.2.1
    have := g.ends_of hp.ok he.1 he.2
    exact ⟨this.2.1, hn, hc.2.2.1, rfl, he⟩
  · cases h

/-- One edge, out of all states of a node. -/
def onF (g : Gr) (p : List Int) (gone : List Bool) (row : List Bool) (node e : Int) : Nat → Nat → List (List Bool) → Bool × List (List Bool)
  | 0, _, L => (true, L)
  | f + 1, i, L => if row.getD i false = true then
      match stepW g p gone ⟨node, i⟩ e with
      | none => (false, L)
      | some t => onF g p gone row node e f (i + 1) (setS L t)
    else onF g p gone row node e f (i + 1) L
def onS (g : Gr) (p : List Int) (gone : List Bool) (L : List (List Bool)) (node e : Int) : Bool × List (List Bool) := onF g p gone (L.getD node.toNat []) node e 6 0 L
theorem onF_ok {g : Gr} {p : List Int} (hp : PtsOk g p) {gone : List Bool} {row : List Bool} {node e : Int} : ∀ (f i : Nat) (L : List (List Bool)), LOk g L → LOk g (onF g p gone row node e f i L).2
  | 0, _, L, h => h
  | f + 1, i, L, h => by
    unfold onF
    split
    · split
      · exact h
      · rename_i t ht
        exact onF_ok hp f (i + 1) _ (h.set (step_ok_range hp ht).1.1 (step_ok_range hp ht).1.2)
    · exact onF_ok hp f (i + 1) _ h

theorem on_ok (g : Gr) (p : List Int) (hp : PtsOk g p) (gone : List Bool) (c : Int) (L : List (List Bool)) (hL : LOk g L) (node e : Int) (hn : 0 ≤ node ∧ node < g.n) (he : -1000000000000 ≤ e ∧ e ≤ 1000000000000) {σ : Store} {lid : Nat} (h : σ.get lid = some (.row 0 false 6 (stRows L))) :
    Ab.Good Try.prog 86 [mapV g p gone c, .sl lid 0 0 g.n.toNat 6, .i node, .i e] σ (fun v σ' => v = .b (onS g p gone L node e).1 ∧ σ'.get lid = some (.row 0 false 6 (stRows (onS g p gone L node e).2)) ∧ ∀ j, j ≠ lid → (σ.get j).isSome = true → σ'.get j = σ.get j) := by
  refine good_of_wp isF86 (Nat.le_refl _) ?_
  unfold ac86
  have hpl := hp.len
  obtain ⟨hrow, hr6⟩ := hL.get hn.1 hn.2
  have rl := rowAt_get h
  have x1 := stRows_get hrow
  have l6 : (bRow (L.getD node.toNat [])).length = 6 := by rw [bRow, List.length_map]; exact hr6
  have t6 : List.take 6 (bRow (L.getD node.toNat [])) = bRow (L.getD node.toNat []) := List.take_of_length_le (by rw [l6]; exact Nat.le_refl _)
  have hnn : node < ((g.n.toNat : Nat) : Int) := by omega
  simp only [go_sem, simprocAttr, hn, hnn, rl, x1, l6, t6]
  have eon : onS g p gone L node e = onF g p gone (L.getD node.toNat []) node e 6 0 L := rfl
  rw [eon]
  have hrl : (L.getD node.toNat []).length = 6 := hr6
  generalize L.getD node.toNat [] = row at *
  refine loop_rule (fun m fr σ' => ∃ (i : Nat) (L' : List (List Bool)), i ≤ 6 ∧ m = 6 - i ∧ fr = [(0, mapV g p gone c), (1, .sl lid 0 0 g.n.toNat 6), (2, .i node), (3, .i e), (16, .agg (bRow row)), (17, .i i)] ∧ LOk g L' ∧
    σ'.get lid = some (.row 0 false 6 (stRows L')) ∧ (∀ j, j ≠ lid → (σ.get j).isSome = true → σ'.get j = σ.get j) ∧ onF g p gone row node e 6 0 L = onF g p gone row node e (6 - i) i L') 6 ⟨0, L, by omega, rfl, rfl, hL, h, fun _ _ _ => rfl, rfl⟩ ?_
  rintro m fr σ' ⟨i, L', h1, rfl, rfl, h2, h3, h4, h5⟩
  have rl' := rowAt_get h3
  have hwi : IntKind.i64.wrap ((i : Int) + 1) = ((i + 1 : Nat) : Int) := by rw [wrap_id (by omega) (by omega)]; rfl
  have q0 : (0 : Int) ≤ (i : Int) := by omega
  simp only [go_sem, simprocAttr]
  refine .intro (fun hi => ?_) (fun hi => ?_)
  · have hb : row[i]? = some (row.getD i false) := by rw [List.getD_eq_getElem?_getD, List.getElem?_eq_getElem (by omega)]; rfl
    have xb := bRow_get hb
    rw [show 6 - i = (6 - (i + 1)) + 1 by omega] at h5
    have h6 : onF g p gone row node e (6 - (i + 1) + 1) i L' = if row.getD i false = true then
      match stepW g p gone ⟨node, i⟩ e with
      | none => (false, L')
      | some t => onF g p gone row node e (6 - (i + 1)) (i + 1) (setS L' t)
    else onF g p gone row node e (6 - (i + 1)) (i + 1) L' := rfl
    rw [h6] at h5
    simp only [go_sem, simprocAttr, q0, hi, Nat.mul_one, xb]
    cases hv : row.getD i false with
    | false =>
      rw [hv] at h5
      simp only [go_sem, simprocAttr, hwi]
      exact back_of _ (by omega) ⟨i + 1, L', by omega, rfl, rfl, h2, h3, h4, by simpa using h5⟩
    | true =>
      rw [hv] at h5
      simp only [go_sem, simprocAttr, mapV]
      refine good_imm (wstep_ok g p hp gone c ⟨node, i⟩ (by show i ≤ 1000; omega) e he) rfl ?_
      simp only [if_true] at h5
      cases hst : stepW g p gone ⟨node, i⟩ e with
      | none =>
        rw [hst] at h5
        simp only [go_sem, simprocAttr, stepV]
        intro tid htid
        have htl : lid ≠ tid := fun q => by rw [← q, h3] at htid; cases htid
        simp only [go_sem, simprocAttr]
        rw [h5]
        refine ⟨rfl, ?_, fun j hj hs => ?_⟩
        · rw [Store.get_set_ne _ _ htl, h3]
        · have hjt : j ≠ tid := fun q => by rw [← q, h4 j hj hs] at htid; rw [htid] at hs; cases hs
          rw [Store.get_set_ne _ _ hjt, h4 j hj hs]
      | some t =>
        obtain ⟨ht1, ht2, _⟩ := step_ok_range hp hst
        rw [hst] at h5
        have kt : known t.val = some t.row := rfl
        have lt : t.row.length = 2 := rfl
        simp only [go_sem, simprocAttr, stepV]
        intro tid htid
        have htl : lid ≠ tid := fun q => by rw [← q, h3] at htid; cases htid
        have rl2 := fun o => (rowAt_fresh (o := o) htid (j := lid) (ver := 0) (by rw [rl']; rfl)).trans rl'
        simp only [go_sem, simprocAttr, kt, lt]
        unfold op86_37
        have t0 : t.row[0]? = some (.sc (.int .i64 t.at_)) := rfl
        have t1 : t.row[1]? = some (.sc (.int .i64 t.n)) := rfl
        obtain ⟨g1, g2⟩ := h2.get ht1.1 ht1.2
        have y1 := stRows_get g1
        have y6 : (bRow (L'.getD t.at_.toNat [])).length = 6 := by rw [bRow, List.length_map]; exact g2
        have htn : t.at_ < ((g.n.toNat : Nat) : Int) := by omega
        have tn0 : (0 : Int) ≤ (t.n : Int) := by omega
        have tn6 : (t.n : Int) < 6 := by omega
        have tn7 : t.n + 1 ≤ 6 := by omega
        simp only [go_sem, simprocAttr, t0, t1, rl2, ht1, htn, tn0, tn6, y1, y6, tn7, Nat.mul_one]
        rw [bRow_set _ _ _ (by rw [g2]; omega), stRows_set]
        simp only [go_sem, simprocAttr, hwi]
        refine back_of _ (by omega) ⟨i + 1, setS L' t, by omega, rfl, rfl, h2.set ht1.1 ht1.2, ?_, fun j hj hs => ?_, h5⟩
        · rw [Store.get_set_self]; rfl
        · have hjt : j ≠ tid := fun q => by rw [← q, h4 j hj hs] at htid; rw [htid] at hs; cases hs
          rw [Store.get_set_ne _ _ hj, Store.get_set_ne _ _ hjt, h4 j hj hs]
  · have ei : i = 6 := by omega
    subst ei
    simp only [go_sem, simprocAttr]
    rw [h5]
    exact ⟨rfl, h3, h4⟩
end Go.Proofs

set_option linter.unusedSimpArgs false
set_option linter.unusedVariables false
namespace Go.Proofs
open Go.Ab

/-! ### expand.order -/
def bfsIn (g : Gr) (s : List Bool × List Int) (e : Int) : List Bool × List Int :=
  if s.1.getD (g.ends e).2.1.toNat false = true then s else (s.1.set (g.ends e).2.1.toNat true, s.2 ++ [(g.ends e).2.1])
def bfsF (g : Gr) (to : Int) : Nat → Nat → List Bool × List Int → List Bool × List Int
  | 0, _, s => s
  | f + 1, i, s => if i < s.2.length then bfsF g to f (i + 1) ((wnextOf g (s.2.getD i 0) to).foldl (bfsIn g) s) else s
def swap1 (l : List Int) (k : Nat) : List Int := (l.set (k + 1) (l.getD k 0)).set k (l.getD (k + 1) 0)
def insF (D : Int → Int) : Nat → List Int → List Int
  | 0, l => l
  | k + 1, l => if D (l.getD k 0) < D (l.getD (k + 1) 0) then insF D k (swap1 l k) else l
def sortF (D : Int → Int) : Nat → Nat → List Int → List Int
  | 0, _, l => l
  | f + 1, i, l => sortF D f (i + 1) (insF D i l)
def bfsOf (g : Gr) (from_ to : Int) : List Int := (bfsF g to g.n.toNat 0 ((List.replicate g.n.toNat false).set from_.toNat true, [from_])).2
def orderOf (g : Gr) (from_ to : Int) : List Int := sortF (fun x => wdist g x to) (bfsOf g from_ to).length 0 (bfsOf g from_ to)

structure BInv (g : Gr) (s : List Bool × List Int) : Prop where
  len : s.1.length = g.n.toNat
  rng : ∀ x ∈ s.2, 0 ≤ x ∧ x < g.n
  cnt : s.1.count false + s.2.length = g.n.toNat
theorem BInv.le {g : Gr} {s : List Bool × List Int} (h : BInv g s) : s.2.length ≤ g.n.toNat := by have := h.cnt; omega
theorem mem_wnext {g : Gr} (hg : g.Ok) {a t e : Int} (h : e ∈ wnextOf g a t) : (0 ≤ e ∧ e < 2 * (g.ls.length : Int)) ∧ (g.ends e).1 = a ∧ (0 ≤ (g.ends e).2.1 ∧ (g.ends e).2.1 < g.n) := by
  unfold wnextOf at h
  split at h
  · rename_i hh
    have := (mem_next hg hh.2).1 h
    exact ⟨this.2.1, this.2.2.1, (g.ends_of hg this.2.1.1 this.2.1.2).2.1⟩
  · cases h
theorem count_set {l : List Bool} {i : Nat} (h : l[i]? = some false) : (l.set i true).count false + 1 = l.count false := by
  obtain ⟨hi, he⟩ := List.getElem?_eq_some_iff.1 h
  have hc : 0 < l.count false := List.count_pos_iff.2 (he ▸ List.getElem_mem hi)
  rw [List.count_set hi, he]
  simp
  omega
theorem BInv.step {g : Gr} {s : List Bool × List Int} (h : BInv g s) {e : Int} (he : 0 ≤ (g.ends e).2.1 ∧ (g.ends e).2.1 < g.n) : BInv g (bfsIn g s e) := by
  unfold bfsIn
  split
  · exact h
  · rename_i hs
    have hi : (g.ends e).2.1.toNat < s.1.length := by rw [h.len]; omega
    have hf : s.1[(g.ends e).2.1.toNat]? = some false := by
      rw [List.getD_eq_getElem?_getD, List.getElem?_eq_getElem hi] at hs
      rw [List.getElem?_eq_getElem hi]
      simpa using hs
    have hc := count_set hf
    have := h.cnt
    refine ⟨by rw [List.length_set]; exact h.len, fun x hx => ?_, by rw [List.length_append]; simp only [List.length_cons, List.length_nil]; omega⟩
    rcases List.mem_append.1 hx with hx | hx
    · exact h.rng x hx
    · rw [List.mem_singleton.1 hx]; exact he
theorem BInv.fold {g : Gr} : ∀ (l : List Int) (s : List Bool × List Int), BInv g s → (∀ e ∈ l, 0 ≤ (g.ends e).2.1 ∧ (g.ends e).2.1 < g.n) → BInv g (l.foldl (bfsIn g) s)
  | [], s, h, _ => h
  | e :: l, s, h, hl => BInv.fold l _ (h.step (hl e (by simp))) fun x hx => hl x (by simp [hx])
theorem swap1_len (l : List Int) (k : Nat) : (swap1 l k).length = l.length := by simp [swap1]
theorem insF_len (D : Int → Int) : ∀ (k : Nat) (l : List Int), (insF D k l).length = l.length
  | 0, l => rfl
  | k + 1, l => by unfold insF; split; rw [insF_len D k, swap1_len]; rfl
theorem getD_get {l : List Int} {i : Nat} (h : i < l.length) : l[i]? = some (l.getD i 0) := by rw [List.getD_eq_getElem?_getD, List.getElem?_eq_getElem h]; rfl

def BfsLoop (g : Gr) (M : AVal) (to : Int) (sid : Nat) (R : List Int) (m : Nat) (fr : Fr) (σ : Store) : Prop :=
  ∃ (i : Nat) (s : List Bool × List Int) (v : AVal), i ≤ s.2.length ∧ m = g.n.toNat - i ∧ fr = [(0, M), (2, .i to), (7, .sl sid 0 0 g.n.toNat 1), (8, v), (9, .i i)] ∧ BInv g s ∧ σ.get sid = some (.row 0 false 1 (bools s.1)) ∧ Acc σ 1 v (ints s.2) [sid] ∧
    (bfsF g to (g.n.toNat - i) i s).2 = R
def BfsIn (g : Gr) (M : AVal) (to : Int) (sid : Nat) (R : List Int) (i : Nat) (nx : List Int) (S : List Bool × List Int) (m : Nat) (fr : Fr) (σ : Store) : Prop :=
  ∃ (j : Nat) (s : List Bool × List Int) (v : AVal), j ≤ nx.length ∧ m = nx.length - j ∧ fr = [(0, M), (2, .i to), (7, .sl sid 0 0 g.n.toNat 1), (8, v), (9, .i i), (43, .lst (ints nx)), (44, .i nx.length), (45, .i j)] ∧ BInv g s ∧ i < s.2.length ∧ σ.get sid = some (.row 0 false 1 (bools s.1)) ∧ Acc σ 1 v (ints s.2) [sid] ∧
    (nx.drop j).foldl (bfsIn g) s = S
def SortLoop (g : Gr) (M : AVal) (to : Int) (R : List Int) (m : Nat) (fr : Fr) (σ : Store) : Prop :=
  ∃ (i : Nat) (l : List Int) (v : AVal), i ≤ l.length ∧ m = l.length - i ∧ fr = [(0, M), (2, .i to), (8, v), (73, .i l.length), (74, .i i)] ∧ l.length ≤ 1000 ∧ Acc σ 1 v (ints l) [] ∧ sortF (fun x => wdist g x to) (l.length - i) i l = R
def SortIn (g : Gr) (M : AVal) (to : Int) (R : List Int) (i N : Nat) (m : Nat) (fr : Fr) (σ : Store) : Prop :=
  ∃ (k : Nat) (l : List Int) (v : AVal), k ≤ i ∧ i < l.length ∧ k = m ∧ l.length = N ∧ fr = [(0, M), (2, .i to), (8, v), (16, .i k), (73, .i N), (74, .i i)] ∧ l.length ≤ 1000 ∧ Acc σ 1 v (ints l) [] ∧ insF (fun x => wdist g x to) k l = R

theorem order_ok (g : Gr) (p : List Int) (hok : g.Ok) (gone : List Bool) (c : Int) (from_ to : Int) (hf : 0 ≤ from_ ∧ from_ < g.n) : PGood Try.prog 85 [mapV g p gone c, .i from_, .i to] (.lst (ints (orderOf g from_ to))) := by
  refine pgood_of_out 3 (good_of_wp isF85 (Nat.le_refl _) ?_)
  unfold ac85
  have hn1 : 0 ≤ g.n := by omega
  have hn40 := hok.2.2.1
  have hls := hok.1
  have hM : mapV g p gone c = .iptr [g.tab, .sc (.int .i64 g.n), .lst (g.ls.map Lk.row), waysV g p gone c] 0 := rfl
  have q1 : g.n ≤ 9223372036854775807 := by omega
  have q2 : g.n.toNat * 1 ≤ 281474976710656 := by omega
  simp only [go_sem, simprocAttr, hM, hn1, q1, q2]
  intro sid hsid
  have hfl : from_ < ((g.n.toNat : Nat) : Int) := by omega
  have hrep : (List.replicate g.n.toNat [AVal.sc (.bool false)])[from_.toNat]? = some [.sc (.bool false)] := by rw [List.getElem?_replicate, if_pos (by omega)]
  simp only [go_sem, simprocAttr, hf, hfl, hrep]
  intro wid hwid
  rw [Store.get_set] at hwid
  have hsw : sid ≠ wid := fun e => by subst e; simp at hwid
  have e0 : (List.replicate g.n.toNat [AVal.sc (.bool false)]).set from_.toNat [.sc (.bool true)] = bools ((List.replicate g.n.toNat false).set from_.toNat true) := by rw [bools_set, bools_rep]
  have hcnt : ((List.replicate g.n.toNat false).set from_.toNat true).count false + 1 = g.n.toNat := by
    rw [count_set (by rw [List.getElem?_replicate, if_pos (by omega)])]
    simp
  simp only [go_sem, simprocAttr, e0]
  refine loop_rule (BfsLoop g (mapV g p gone c) to sid (bfsOf g from_ to)) g.n.toNat ⟨0, ((List.replicate g.n.toNat false).set from_.toNat true, [from_]), .sl wid 0 0 1 1, by omega, rfl, rfl, ⟨by simp, by simpa using hf, by simpa using hcnt⟩, ?_, ?_, rfl⟩ ?_
  · rw [Store.get_set_ne _ _ hsw, Store.get_set_self]
  · refine acc_new (sz := 1) (rows := [[.sc (.int .i64 from_)]]) (others := [sid]) (alive_cons (o := .row 0 false 1 (bools ((List.replicate g.n.toNat false).set from_.toNat true))) (Store.get_set_self _ _ _) alive_nil) ?_
    rw [Store.get_set_ne _ _ (fun e => hsw e.symm)]
    simp
  rintro m fr σ ⟨i, s, v, h1, rfl, rfl, hB, h2, h3, h4⟩
  have hle := hB.le
  have hlen := h3.len
  rw [ints_len] at hlen
  have hwi : IntKind.i64.wrap ((i : Int) + 1) = ((i + 1 : Nat) : Int) := by rw [wrap_id (by omega) (by omega)]; rfl
  have qi : (0 : Int) ≤ (i : Int) := by omega
  simp only [go_sem, simprocAttr, hlen]
  refine .intro (fun h => ?_) (fun h => ?_)
  · have hi : i < s.2.length := by omega
    obtain ⟨id, ver, off, xs, rfl, hat⟩ := h3.at (by rw [ints_len]; omega)
    have hg := getD_get hi
    have hw := hB.rng _ (List.mem_of_getElem? hg)
    have rw1 := hat.row
    have rx := hat.get (ints_get hg)
    have hil : (i : Int) < (s.2.length : Int) := by omega
    simp only [go_sem, simprocAttr]
    unfold op85_34
    simp only [go_sem, simprocAttr, hM, ints_len, rw1, rx, qi, hil]
    refine goodD_imm (tnext_ok g _ to hls) rfl ?_
    have hnl : (wnextOf g (s.2.getD i 0) to).length ≤ 1000 := by
      unfold wnextOf
      split
      · have := wnext_len g to (s.2.getD i 0); omega
      · simp
    have hmem : ∀ e ∈ wnextOf g (s.2.getD i 0) to, (0 ≤ e ∧ e < 2 * (g.ls.length : Int)) ∧ (0 ≤ (g.ends e).2.1 ∧ (g.ends e).2.1 < g.n) := fun e he => ⟨(mem_wnext hok he).1, (mem_wnext hok he).2.2⟩
    have h4' : (bfsF g to (g.n.toNat - (i + 1)) (i + 1) ((wnextOf g (s.2.getD i 0) to).foldl (bfsIn g) s)).2 = bfsOf g from_ to := by
      rw [← h4, show g.n.toNat - i = (g.n.toNat - (i + 1)) + 1 by omega]
      simp only [bfsF, hi, if_true]
    generalize wnextOf g (s.2.getD i 0) to = nx at *
    simp only [go_sem, simprocAttr]
    refine loop_rule (BfsIn g (mapV g p gone c) to sid (bfsOf g from_ to) i nx (nx.foldl (bfsIn g) s)) nx.length ⟨0, s, _, by omega, rfl, by rw [hM, ints_len]; rfl, hB, hi, h2, hat.acc, rfl⟩ ?_
    clear rx rw1 hat hg hw
    rintro m fr σ2 ⟨j, s2, v2, k1, rfl, rfl, kB, ki, k2, k3, k4⟩
    have hwj : IntKind.i64.wrap ((j : Int) + 1) = ((j + 1 : Nat) : Int) := by rw [wrap_id (by omega) (by omega)]; rfl
    have qj : (0 : Int) ≤ (j : Int) := by omega
    simp only [go_sem, simprocAttr]
    refine .intro (fun hj => ?_) (fun hj => ?_)
    · have hx : nx[j]? = some nx[j] := List.getElem?_eq_getElem (by omega)
      have hd := drop_of_get hx
      generalize nx[j]'(by omega) = x at *
      have hxj := ints_get hx
      have hmx := hmem x (List.mem_of_getElem? hx)
      rw [hd, List.foldl_cons] at k4
      simp only [go_sem, simprocAttr, hM, hxj, qj]
      have eo := ends_ok g x (by omega)
      simp only [Gr.val] at eo
      refine good_imm eo rfl ?_
      have rs := rowAt_get k2
      have hend : (g.ends x).2.1.toNat < s2.1.length := by rw [kB.len]; omega
      have hsb : s2.1[(g.ends x).2.1.toNat]? = some (s2.1.getD (g.ends x).2.1.toNat false) := by rw [List.getD_eq_getElem?_getD, List.getElem?_eq_getElem hend]; rfl
      have hsr := bools_get hsb
      have he2 := hmx.2
      have he3 : (g.ends x).2.1 < ((g.n.toNat : Nat) : Int) := by omega
      simp only [go_sem, simprocAttr, rs, hsr, he2, he3]
      cases hv : s2.1.getD (g.ends x).2.1.toNat false with
      | true =>
        simp only [go_sem, simprocAttr, hwj]
        have e1 : bfsIn g s2 x = s2 := if_pos hv
        rw [e1] at k4
        exact back_of _ (by omega) ⟨j + 1, s2, v2, by omega, rfl, rfl, kB, ki, k2, k3, k4⟩
      | false =>
        have e1 : bfsIn g s2 x = (s2.1.set (g.ends x).2.1.toNat true, s2.2 ++ [(g.ends x).2.1]) := if_neg (by rw [hv]; decide)
        have kB2 := kB.step (e := x) he2
        have kle := kB2.le
        rw [e1] at k4 kB2 kle
        rw [List.length_append] at kle
        simp only [List.length_cons, List.length_nil] at kle
        simp only [go_sem, simprocAttr, rs, hsr, he2, he3]
        rw [← bools_set]
        have a1 := k3.other (id := sid) (by simp) (.row 0 false 1 (bools (s2.1.set (g.ends x).2.1.toNat true)))
        intro nid hnid
        simp only [go_sem, simprocAttr]
        refine acc_append (a1.fresh hnid _) (by simp only [ints_len, List.length_cons, List.length_nil]; omega) (by simp only [ints_len, List.length_cons, List.length_nil]; omega) fun v' σ' a2 e2 => ?_
        have g1 : σ'.get sid = _ := (e2 sid (by simp)).trans (get_fresh hnid (by simp))
        rw [Store.get_set_self] at g1
        have ei : ints s2.2 ++ [[.sc (.int .i64 (g.ends x).2.1)]] = ints (s2.2 ++ [(g.ends x).2.1]) := by simp [ints]
        rw [ei] at a2
        simp only [go_sem, simprocAttr, hwj]
        refine back_of _ (by omega) ⟨j + 1, _, v', by omega, rfl, rfl, kB2, ?_, g1, a2.less (by simp), k4⟩
        rw [List.length_append]; omega
    · have ej : nx.drop j = [] := List.drop_eq_nil_of_le (by omega)
      rw [ej] at k4
      have k4' : s2 = nx.foldl (bfsIn g) s := k4
      subst k4'
      simp only [go_sem, simprocAttr, hwi]
      exact back_of _ (by omega) ⟨i + 1, _, v2, by omega, rfl, rfl, kB, k2, k3, h4'⟩
  · have ei : i = s.2.length := by omega
    have hwork : s.2 = bfsOf g from_ to := by
      rw [← h4]
      cases hfu : g.n.toNat - i with
      | zero => rfl
      | succ f => unfold bfsF; rw [if_neg (by omega)]
    have eord : orderOf g from_ to = sortF (fun x => wdist g x to) s.2.length 0 s.2 := by unfold orderOf; rw [hwork]
    rw [eord]
    simp only [go_sem, simprocAttr, hlen]
    refine loop_rule (SortLoop g (mapV g p gone c) to (sortF (fun x => wdist g x to) s.2.length 0 s.2)) s.2.length ⟨0, s.2, v, by omega, rfl, rfl, by omega, h3.less (by simp), rfl⟩ ?_
    generalize sortF (fun x => wdist g x to) s.2.length 0 s.2 = R at *
    clear hlen hwi qi h4 hwork eord h3 h2 hle hB h1 h ei
    rintro m fr σ2 ⟨i, l, v, h1, rfl, rfl, h2, h3, h4⟩
    have hwi : IntKind.i64.wrap ((i : Int) + 1) = ((i + 1 : Nat) : Int) := by rw [wrap_id (by omega) (by omega)]; rfl
    simp only [go_sem, simprocAttr]
    refine .intro (fun h => ?_) (fun h => ?_)
    · have hi : i < l.length := by omega
      have h4' : sortF (fun x => wdist g x to) (l.length - (i + 1)) (i + 1) (insF (fun x => wdist g x to) i l) = R := by
        rw [← h4, show l.length - i = (l.length - (i + 1)) + 1 by omega]
        rfl
      simp only [go_sem, simprocAttr]
      refine loop_rule (SortIn g (mapV g p gone c) to (insF (fun x => wdist g x to) i l) i l.length) i ⟨i, l, v, by omega, hi, rfl, rfl, rfl, by omega, h3, rfl⟩ ?_
      clear h3
      rintro m fr σ3 ⟨k, l2, v2, k1, k2, rfl, k6, rfl, k3, k4, k5⟩
      obtain ⟨id, ver, off, xs, rfl, hat⟩ := k4.at (by rw [ints_len]; omega)
      have fin : insF (fun x => wdist g x to) k l2 = l2 → Back (SortLoop g (mapV g p gone c) to R) (l.length - i) [(0, mapV g p gone c), (2, .i to), (8, .sl id ver off l2.length 1), (73, .i l.length), (74, .i ((i + 1 : Nat) : Int))] σ3 := fun hc => by
        rw [hc] at k5
        have ha := hat.acc
        rw [ints_len] at ha
        refine back_of (l.length - (i + 1)) (by omega) ⟨i + 1, l2, _, by omega, by rw [k6], by rw [k6], by omega, ha, ?_⟩
        rw [k6, k5]
        exact h4'
      simp only [go_sem, simprocAttr]
      unfold op85_78
      simp only [go_sem, simprocAttr]
      cases k with
      | zero =>
        have qz : ¬ ((0 : Int) < ((0 : Nat) : Int)) := by omega
        simp only [go_sem, simprocAttr, qz, hwi, ints_len]
        exact fin rfl
      | succ k =>
        have qz : ((0 : Int) < ((k + 1 : Nat) : Int)) := by omega
        have hks : ((k + 1 : Nat) : Int) < (l2.length : Int) := by omega
        have hk0 : (k : Int) < (l2.length : Int) := by omega
        have hwk : IntKind.i64.wrap (((k + 1 : Nat) : Int) - 1) = (k : Int) := by rw [wrap_id (by omega) (by omega)]; omega
        have qk : (0 : Int) ≤ (k : Int) := by omega
        have qk1 : (0 : Int) ≤ ((k + 1 : Nat) : Int) := by omega
        have ga := getD_get (l := l2) (i := k) (by omega)
        have gb := getD_get (l := l2) (i := k + 1) (by omega)
        have rw1 := hat.row
        have rxa := hat.get (ints_get ga)
        have rxb := hat.get (ints_get gb)
        simp only [go_sem, simprocAttr, hM, qz, hks, hk0, hwk, qk, qk1, ints_len, rw1, rxa, rxb]
        refine goodD_imm (tdist_ok g hok _ to) rfl ?_
        simp only [go_sem, simprocAttr, hM, qz, hks, hk0, hwk, qk, qk1, ints_len, rw1, rxa, rxb]
        refine goodD_imm (tdist_ok g hok _ to) rfl ?_
        simp only [go_sem, simprocAttr]
        have e5 : insF (fun x => wdist g x to) (k + 1) l2 = if wdist g (l2.getD k 0) to < wdist g (l2.getD (k + 1) 0) to then insF (fun x => wdist g x to) k (swap1 l2 k) else l2 := rfl
        refine .intro (fun hc => ?_) (fun hc => ?_)
        · rw [e5, if_pos hc] at k5
          have hat1 := hat.write (k + 1) [.sc (.int .i64 (l2.getD k 0))] (by rw [ints_len]; omega)
          have rw2 := hat1.row
          have hset1 : (ints l2).set (k + 1) [.sc (.int .i64 (l2.getD k 0))] = ints (l2.set (k + 1) (l2.getD k 0)) := (ints_set _ _ _).symm
          rw [hset1] at hat1
          have gc : (l2.set (k + 1) (l2.getD k 0))[k]? = some (l2.getD k 0) := by rw [List.getElem?_set_ne (by omega)]; exact ga
          have rxc := hat1.get (ints_get gc)
          have hat2 := hat1.write k [.sc (.int .i64 (l2.getD (k + 1) 0))] (by rw [ints_len, List.length_set]; omega)
          have hset2 : (ints (l2.set (k + 1) (l2.getD k 0))).set k [.sc (.int .i64 (l2.getD (k + 1) 0))] = ints (swap1 l2 k) := (ints_set _ _ _).symm
          rw [hset2] at hat2
          simp only [go_sem, simprocAttr]
          unfold op85_106
          simp only [go_sem, simprocAttr, hks, hk0, hwk, qk, qk1, rw1, rxa, rxb, rw2, rxc]
          have hln : (ints (swap1 l2 k)).length = l2.length := by rw [ints_len, swap1_len]
          have hln2 : (ints (l2.set (k + 1) (l2.getD k 0))).length = l2.length := by rw [ints_len, List.length_set]
          refine back_of _ (by omega) ⟨k, swap1 l2 k, _, by omega, by rw [swap1_len]; omega, rfl, by rw [swap1_len]; exact k6, rfl, by rw [swap1_len]; omega, ?_, k5⟩
          have := hat2.acc
          rw [hln] at this
          simpa only [Store.set_set] using this
        · rw [e5, if_neg hc] at k5
          simp only [go_sem, simprocAttr, hwi]
          exact fin (by rw [e5, if_neg hc])
    · have ei : i = l.length := by omega
      have hR : l = R := by rw [← h4, show l.length - i = 0 by omega]; rfl
      subst hR
      simp only [go_sem, simprocAttr]
      exact acc_out h3 (ints_sc _)
end Go.Proofs

set_option linter.unusedSimpArgs false
set_option linter.unusedVariables false
namespace Go.Proofs
open Go.Ab

/-! ### expand.only, node, Seg, New -/
theorem swap1_perm (l : List Int) (k : Nat) (h : k + 1 < l.length) : (swap1 l k).Perm l := by
  have e : swap1 l k = (l.set k (l[k + 1]'h)).set (k + 1) (l[k]'(by omega)) := by
    unfold swap1
    rw [List.getD_eq_getElem?_getD, List.getD_eq_getElem?_getD, List.getElem?_eq_getElem h, List.getElem?_eq_getElem (by omega : k < l.length)]
    simp only [Option.getD_some]
    rw [List.set_comm _ _ (by omega)]
  rw [e]
  exact List.set_set_perm (by omega) h
theorem insF_perm (D : Int → Int) : ∀ (k : Nat) (l : List Int), k < l.length → (insF D k l).Perm l
  | 0, l, _ => List.Perm.refl _
  | k + 1, l, h => by
    unfold insF
    split
    · exact (insF_perm D k _ (by rw [swap1_len]; omega)).trans (swap1_perm l k h)
    · exact List.Perm.refl _
theorem sortF_perm (D : Int → Int) : ∀ (f i : Nat) (l : List Int), i + f ≤ l.length → (sortF D f i l).Perm l
  | 0, _, l, _ => List.Perm.refl _
  | f + 1, i, l, h => by
    unfold sortF
    exact (sortF_perm D f (i + 1) _ (by rw [insF_len]; omega)).trans (insF_perm D i l (by omega))
theorem bfsF_inv {g : Gr} (hok : g.Ok) {to : Int} : ∀ (f i : Nat) (s : List Bool × List Int), BInv g s → BInv g (bfsF g to f i s)
  | 0, _, s, h => h
  | f + 1, i, s, h => by
    unfold bfsF
    split
    · exact bfsF_inv hok f (i + 1) _ (h.fold _ _ fun e he => (mem_wnext hok he).2.2)
    · exact h
theorem bfs_inv0 {g : Gr} {from_ : Int} (hf : 0 ≤ from_ ∧ from_ < g.n) : BInv g ((List.replicate g.n.toNat false).set from_.toNat true, [from_]) := by
  have hcnt : ((List.replicate g.n.toNat false).set from_.toNat true).count false + 1 = g.n.toNat := by
    rw [count_set (by rw [List.getElem?_replicate, if_pos (by omega)])]
    simp
  exact ⟨by simp, by simpa using hf, by simpa using hcnt⟩
theorem order_perm (g : Gr) (from_ to : Int) : (orderOf g from_ to).Perm (bfsOf g from_ to) := sortF_perm _ _ 0 _ (by omega)
theorem order_rng {g : Gr} (hok : g.Ok) {from_ to : Int} (hf : 0 ≤ from_ ∧ from_ < g.n) : ∀ x ∈ orderOf g from_ to, 0 ≤ x ∧ x < g.n := fun x hx =>
  (bfsF_inv hok _ _ _ (bfs_inv0 hf)).rng x ((order_perm g from_ to).mem_iff.1 hx)
theorem order_len {g : Gr} (hok : g.Ok) {from_ to : Int} (hf : 0 ≤ from_ ∧ from_ < g.n) : (orderOf g from_ to).length ≤ g.n.toNat := by
  rw [(order_perm g from_ to).length_eq]
  exact (bfsF_inv hok _ _ _ (bfs_inv0 hf)).le

def onlyF (row : List Bool) : Nat → Nat → Nat × Nat → Nat × Nat
  | 0, _, a => a
  | f + 1, i, a => onlyF row f (i + 1) (if row.getD i false = true then (i, a.2 + 1) else a)
def onlyS (row : List Bool) : Nat × Bool := ((onlyF row 6 0 (0, 0)).1, decide ((onlyF row 6 0 (0, 0)).2 = 1))

theorem bRow_imm (r : List Bool) : [AVal.agg (bRow r)].all (immA 4) = true := by
  show ((bRow r).all (immA 3) && true) = true
  rw [Bool.and_true, List.all_eq_true]
  intro x hx
  simp only [bRow, List.mem_map] at hx
  obtain ⟨b, _, rfl⟩ := hx
  rfl
theorem only_ok (row : List Bool) (h6 : row.length = 6) : PGood Try.prog 87 [.agg (bRow row)] (.tup [.i (onlyS row).1, .b (onlyS row).2]) := by
  refine pgood_of_out 3 (good_of_wp isF87 (Nat.le_refl _) ?_)
  unfold ac87
  have kr : known (.agg (bRow row)) = some (bRow row) := rfl
  have l6 : (bRow row).length = 6 := by rw [bRow, List.length_map]; exact h6
  have t6 : List.take 6 (bRow row) = bRow row := List.take_of_length_le (by omega)
  simp only [go_sem, simprocAttr, kr, l6]
  intro id hid
  simp only [go_sem, simprocAttr, l6, t6]
  refine loop_rule (fun m fr σ => ∃ (i : Nat) (a : Nat × Nat), i ≤ 6 ∧ m = 6 - i ∧ fr = [(4, .i a.1), (5, .i a.2), (8, .agg (bRow row)), (9, .i i)] ∧ a.2 ≤ i ∧ onlyF row 6 0 (0, 0) = onlyF row (6 - i) i a) 6 ⟨0, (0, 0), by omega, rfl, rfl, by omega, rfl⟩ ?_
  rintro m fr σ ⟨i, a, h1, rfl, rfl, h3, h2⟩
  have hwi : IntKind.i64.wrap ((i : Int) + 1) = ((i + 1 : Nat) : Int) := by rw [wrap_id (by omega) (by omega)]; rfl
  have hwa : IntKind.i64.wrap ((a.2 : Int) + 1) = ((a.2 + 1 : Nat) : Int) := by rw [wrap_id (by omega) (by omega)]; rfl
  have q0 : (0 : Int) ≤ (i : Int) := by omega
  simp only [go_sem, simprocAttr]
  refine .intro (fun hi => ?_) (fun hi => ?_)
  · have hb : row[i]? = some (row.getD i false) := by rw [List.getD_eq_getElem?_getD, List.getElem?_eq_getElem (by omega)]; rfl
    have xb := bRow_get hb
    rw [show 6 - i = (6 - (i + 1)) + 1 by omega] at h2
    have e : onlyF row (6 - (i + 1) + 1) i a = onlyF row (6 - (i + 1)) (i + 1) (if row.getD i false = true then (i, a.2 + 1) else a) := rfl
    rw [e] at h2
    simp only [go_sem, simprocAttr, q0, hi, Nat.mul_one, xb]
    cases hv : row.getD i false with
    | false =>
      rw [hv] at h2
      simp only [go_sem, simprocAttr, hwi]
      exact back_of _ (by omega) ⟨i + 1, a, by omega, rfl, rfl, by omega, by simpa using h2⟩
    | true =>
      rw [hv] at h2
      simp only [go_sem, simprocAttr, hwi, hwa]
      exact back_of _ (by omega) ⟨i + 1, (i, a.2 + 1), by omega, rfl, rfl, by show a.2 + 1 ≤ i + 1; omega, by simpa using h2⟩
  · have ei : i = 6 := by omega
    subst ei
    have h2' : onlyF row 6 0 (0, 0) = a := h2
    simp only [go_sem, simprocAttr]
    unfold onlyS
    rw [h2']
    have : decide ((a.2 : Int) = 1) = decide (a.2 = 1) := by rw [Bool.eq_iff_iff]; simp only [decide_eq_true_eq]; omega
    rw [this]
    exact out_imm rfl

def edgesF (g : Gr) (p : List Int) (gone : List Bool) (node : Int) : List Int → List (List Bool) → Bool × List (List Bool)
  | [], L => (true, L)
  | e :: r, L => if (onS g p gone L node e).1 = true then edgesF g p gone node r (onS g p gone L node e).2 else (false, (onS g p gone L node e).2)
def nodesF (g : Gr) (p : List Int) (gone : List Bool) (to : Int) : List Int → List (List Bool) → Bool × List (List Bool)
  | [], L => (true, L)
  | n :: r, L => if (edgesF g p gone n (wnextOf g n to) L).1 = true then nodesF g p gone to r (edgesF g p gone n (wnextOf g n to) L).2 else (false, (edgesF g p gone n (wnextOf g n to) L).2)
def six0 : List Bool := List.replicate 6 false
def sets0 (g : Gr) (s : St) : List (List Bool) := setS (List.replicate g.n.toNat six0) s
def nodeW (g : Gr) (p : List Int) (gone : List Bool) (s : St) (to : Int) : Option St :=
  if s.at_ = to ∨ wdist g s.at_ to < 0 ∨ 6 ≤ s.n then none
  else if (nodesF g p gone to (orderOf g s.at_ to) (sets0 g s)).1 = true ∧ (onlyS ((nodesF g p gone to (orderOf g s.at_ to) (sets0 g s)).2.getD to.toNat [])).2 = true then
    some ⟨to, (onlyS ((nodesF g p gone to (orderOf g s.at_ to) (sets0 g s)).2.getD to.toNat [])).1⟩ else none
theorem onS_ok {g : Gr} {p : List Int} (hp : PtsOk g p) {gone : List Bool} {node e : Int} {L : List (List Bool)} (h : LOk g L) : LOk g (onS g p gone L node e).2 := onF_ok hp _ _ _ h
theorem edgesF_ok {g : Gr} {p : List Int} (hp : PtsOk g p) {gone : List Bool} {node : Int} : ∀ (l : List Int) (L : List (List Bool)), LOk g L → LOk g (edgesF g p gone node l L).2
  | [], L, h => h
  | e :: r, L, h => by
    unfold edgesF
    split
    · exact edgesF_ok hp r _ (onS_ok hp h)
    · exact onS_ok hp h
theorem wdist_rng {g : Gr} {a t : Int} (h : ¬ wdist g a t < 0) : (0 ≤ a ∧ a < g.n) ∧ (0 ≤ t ∧ t < g.n) := by
  unfold wdist at h
  split at h
  · rename_i hh; exact hh
  · omega

def NodeInv (g : Gr) (p : List Int) (gone : List Bool) (M : AVal) (to : Int) (cid lid : Nat) (nodes : List Int) (R : Bool × List (List Bool)) (m : Nat) (fr : Fr) (σ : Store) : Prop :=
  ∃ (i : Nat) (L : List (List Bool)), i ≤ nodes.length ∧ m = nodes.length - i ∧ fr = [(0, M), (2, .i to), (6, .ptr cid 0 0 0), (9, .sl lid 0 0 g.n.toNat 6), (57, .lst (ints nodes)), (58, .i nodes.length), (59, .i i)] ∧
    LOk g L ∧ σ.get lid = some (.row 0 false 6 (stRows L)) ∧ σ.get cid = some (.row 0 false 2 [zero2]) ∧ nodesF g p gone to (nodes.drop i) L = R
def EdgeInv (g : Gr) (p : List Int) (gone : List Bool) (M : AVal) (to : Int) (cid lid : Nat) (nodes : List Int) (i : Nat) (node : Int) (nx : List Int) (R : Bool × List (List Bool)) (m : Nat) (fr : Fr) (σ : Store) : Prop :=
  ∃ (j : Nat) (L : List (List Bool)), j ≤ nx.length ∧ m = nx.length - j ∧ fr = [(0, M), (2, .i to), (6, .ptr cid 0 0 0), (9, .sl lid 0 0 g.n.toNat 6), (11, .i node), (57, .lst (ints nodes)), (58, .i nodes.length), (59, .i i), (69, .lst (ints nx)), (70, .i nx.length), (71, .i j)] ∧
    LOk g L ∧ σ.get lid = some (.row 0 false 6 (stRows L)) ∧ σ.get cid = some (.row 0 false 2 [zero2]) ∧ edgesF g p gone node (nx.drop j) L = R

theorem node_seg_ok (g : Gr) (p : List Int) (hp : PtsOk g p) (gone : List Bool) (c : Int) (s : St) (hs : s.n ≤ 1000) (to : Int) : PGood Try.prog 68 [mapV g p gone c, s.val, .i to] (stepV (nodeW g p gone s to)) := by
  refine pgood_of_out 3 (good_of_wp isF68 (Nat.le_refl _) ?_)
  unfold ac68
  have hok := hp.ok
  have hn40 := hok.2.2.1
  have hls := hok.1
  have hM : mapV g p gone c = .iptr [g.tab, .sc (.int .i64 g.n), .lst (g.ls.map Lk.row), waysV g p gone c] 0 := rfl
  simp only [go_sem, simprocAttr, St.val, St.row]
  intro sid hsid
  simp only [go_sem, simprocAttr]
  intro cid hcid
  have hsc : sid ≠ cid := fun e => by rw [← e] at hcid; simp at hcid
  have f1 := fun o => rowAt_fresh (o := o) hcid (j := sid) (ver := 0) (by rw [rowAt_self]; rfl)
  have rs0 := (f1 (.row 0 false 2 [zero2])).trans rowAt_self
  have rc0 : Ab.rowAt ((Store.empty.set sid (.row 0 false 2 [[.sc (.int .i64 s.at_), .sc (.int .i64 s.n)]])).set cid (.row 0 false 2 [zero2])) cid 0 = some (false, 2, [zero2]) := rowAt_self
  have gc0 : ((Store.empty.set sid (.row 0 false 2 [[.sc (.int .i64 s.at_), .sc (.int .i64 s.n)]])).set cid (.row 0 false 2 [zero2])).get cid = some (.row 0 false 2 [zero2]) := Store.get_set_self _ _ _
  have ez : [AVal.sc (.int .i64 0), .sc (.int .i64 0)] = zero2 := rfl
  rw [ez]
  generalize ((Store.empty.set sid (.row 0 false 2 [[.sc (.int .i64 s.at_), .sc (.int .i64 s.n)]])).set cid (.row 0 false 2 [zero2])) = σ0 at *
  have lz : zero2.length = 2 := rfl
  have dz : List.drop 2 zero2 = [] := rfl
  have none_out : nodeW g p gone s to = none → ∀ (σ : Store), Out 3 σ (.tup [.agg zero2, .b false]) (stepV (nodeW g p gone s to)) := fun h σ => by rw [h]; exact out_imm rfl
  simp only [go_sem, simprocAttr, rs0]
  by_cases c1 : s.at_ = to
  case pos =>
    simp only [go_sem, simprocAttr, c1, rc0, lz, dz]
    exact none_out (if_pos (.inl c1)) _
  simp only [go_sem, simprocAttr, c1, hM]
  refine good_imm (tdist_ok g hok s.at_ to) rfl ?_
  simp only [go_sem, simprocAttr]
  by_cases c2 : wdist g s.at_ to < 0
  case pos =>
    simp only [go_sem, simprocAttr, c2, rc0, lz, dz]
    exact none_out (if_pos (.inr (.inl c2))) _
  obtain ⟨hf, ht⟩ := wdist_rng c2
  have q0 : ¬ ((s.n : Int) < 0) := by omega
  simp only [go_sem, simprocAttr, c2, rs0, q0]
  by_cases c3 : (6 : Int) ≤ (s.n : Int)
  case pos =>
    simp only [go_sem, simprocAttr, c3, rc0, lz, dz]
    exact none_out (if_pos (.inr (.inr (by omega)))) _
  have eW : nodeW g p gone s to = if (nodesF g p gone to (orderOf g s.at_ to) (sets0 g s)).1 = true ∧ (onlyS ((nodesF g p gone to (orderOf g s.at_ to) (sets0 g s)).2.getD to.toNat [])).2 = true then
    some ⟨to, (onlyS ((nodesF g p gone to (orderOf g s.at_ to) (sets0 g s)).2.getD to.toNat [])).1⟩ else none := if_neg (by omega)
  rw [eW] at none_out ⊢
  have q1 : 0 ≤ g.n := by omega
  have q2 : g.n ≤ 9223372036854775807 := by omega
  have q3 : g.n.toNat * 6 ≤ 281474976710656 := by omega
  simp only [go_sem, simprocAttr, c3, q1, q2, q3]
  intro lid hlid
  have f2 := fun o => (rowAt_fresh (o := o) hlid (j := sid) (ver := 0) (by rw [rs0]; rfl)).trans rs0
  have hcl : cid ≠ lid := fun e => by rw [← e, gc0] at hlid; cases hlid
  have hfl : s.at_ < ((g.n.toNat : Nat) : Int) := by omega
  have hrep : (List.replicate g.n.toNat [AVal.sc (.bool false), .sc (.bool false), .sc (.bool false), .sc (.bool false), .sc (.bool false), .sc (.bool false)])[s.at_.toNat]? = some (bRow six0) := by rw [List.getElem?_replicate, if_pos (by omega)]; rfl
  have q4 : (0 : Int) ≤ (s.n : Int) := by omega
  have q5 : (s.n : Int) < 6 := by omega
  have q6 : s.n + 1 ≤ 6 := by omega
  have l6 : (bRow six0).length = 6 := rfl
  simp only [go_sem, simprocAttr]
  unfold op68_48
  simp only [go_sem, simprocAttr, f2, hf, hfl, hrep, q4, q5, q6, l6, Nat.mul_one]
  have er : List.replicate g.n.toNat [AVal.sc (.bool false), .sc (.bool false), .sc (.bool false), .sc (.bool false), .sc (.bool false), .sc (.bool false)] = stRows (List.replicate g.n.toNat six0) := by
    unfold stRows; rw [List.map_replicate]; rfl
  have hL00 : LOk g (List.replicate g.n.toNat six0) := ⟨by simp, fun r hr => by rw [(List.mem_replicate.1 hr).2]; rfl⟩
  have hL0 : LOk g (sets0 g s) := hL00.set hf.1 hf.2
  have es0 : (List.replicate g.n.toNat [AVal.sc (.bool false), .sc (.bool false), .sc (.bool false), .sc (.bool false), .sc (.bool false), .sc (.bool false)]).set s.at_.toNat (bRow (six0.set s.n true)) = stRows (sets0 g s) := by
    rw [er, stRows_set]
    unfold sets0 setS
    congr 2
    rw [List.getD_eq_getElem?_getD, List.getElem?_replicate, if_pos (by omega)]
    rfl
  rw [bRow_set _ _ _ (by show s.n < 6; omega), es0]
  refine good_imm (order_ok g p hok gone c s.at_ to hf) rfl ?_
  have hol := order_len hok (to := to) hf
  have hor := order_rng hok (to := to) hf
  generalize orderOf g s.at_ to = nodes at *
  simp only [go_sem, simprocAttr]
  refine loop_rule (NodeInv g p gone (mapV g p gone c) to cid lid nodes (nodesF g p gone to nodes (sets0 g s))) nodes.length ⟨0, sets0 g s, by omega, rfl, rfl, hL0, ?_, ?_, rfl⟩ ?_
  · rw [Store.get_set_self]
  · rw [Store.get_set_ne _ _ hcl, gc0]
  generalize nodesF g p gone to nodes (sets0 g s) = R at *
  rintro m fr σ ⟨i, L, h1, rfl, rfl, h2, h3, h4, h5⟩
  have hwi : IntKind.i64.wrap ((i : Int) + 1) = ((i + 1 : Nat) : Int) := by rw [wrap_id (by omega) (by omega)]; rfl
  have qi : (0 : Int) ≤ (i : Int) := by omega
  simp only [go_sem, simprocAttr]
  refine .intro (fun h => ?_) (fun h => ?_)
  · have hx : nodes[i]? = some nodes[i] := List.getElem?_eq_getElem (by omega)
    have hd := drop_of_get hx
    generalize nodes[i]'(by omega) = x at *
    have hxi := ints_get hx
    have hxr := hor x (List.mem_of_getElem? hx)
    rw [hd] at h5
    have e5 : nodesF g p gone to (x :: nodes.drop (i + 1)) L = if (edgesF g p gone x (wnextOf g x to) L).1 = true then nodesF g p gone to (nodes.drop (i + 1)) (edgesF g p gone x (wnextOf g x to) L).2 else (false, (edgesF g p gone x (wnextOf g x to) L).2) := rfl
    rw [e5] at h5
    simp only [go_sem, simprocAttr, hxi, qi, hM]
    refine good_imm (tnext_ok g x to hls) rfl ?_
    have hnl : (wnextOf g x to).length ≤ 1000 := by
      unfold wnextOf
      split
      · have := wnext_len g to x; omega
      · simp
    have hmem : ∀ e ∈ wnextOf g x to, (0 ≤ e ∧ e < 2 * (g.ls.length : Int)) := fun e he => (mem_wnext hok he).1
    generalize wnextOf g x to = nx at *
    simp only [go_sem, simprocAttr]
    refine loop_rule (EdgeInv g p gone (mapV g p gone c) to cid lid nodes i x nx (edgesF g p gone x nx L)) nx.length ⟨0, L, by omega, rfl, rfl, h2, h3, h4, rfl⟩ ?_
    have hLR := edgesF_ok hp (gone := gone) (node := x) nx L h2
    generalize edgesF g p gone x nx L = S at *
    clear h3 h4 h2 e5
    rintro m fr σ2 ⟨j, L2, k1, rfl, rfl, k2, k3, k4, k5⟩
    have hwj : IntKind.i64.wrap ((j : Int) + 1) = ((j + 1 : Nat) : Int) := by rw [wrap_id (by omega) (by omega)]; rfl
    have qj : (0 : Int) ≤ (j : Int) := by omega
    simp only [go_sem, simprocAttr]
    refine .intro (fun hj => ?_) (fun hj => ?_)
    · have hy : nx[j]? = some nx[j] := List.getElem?_eq_getElem (by omega)
      have hdy := drop_of_get hy
      generalize nx[j]'(by omega) = y at *
      have hyj := ints_get hy
      have hyr := hmem y (List.mem_of_getElem? hy)
      rw [hdy] at k5
      have e6 : edgesF g p gone x (y :: nx.drop (j + 1)) L2 = if (onS g p gone L2 x y).1 = true then edgesF g p gone x (nx.drop (j + 1)) (onS g p gone L2 x y).2 else (false, (onS g p gone L2 x y).2) := rfl
      rw [e6] at k5
      simp only [go_sem, simprocAttr, hyj, qj]
      rw [← hM]
      refine (on_ok g p hp gone c L2 k2 x y hxr (by omega) k3).mono fun v σ3 hv => ?_
      obtain ⟨rfl, u1, u2⟩ := hv
      have gc3 : σ3.get cid = _ := (u2 cid hcl (by rw [k4]; rfl)).trans k4
      have rc3 := rowAt_get gc3
      simp only [go_sem, simprocAttr]
      cases hv : (onS g p gone L2 x y).1 with
      | false =>
        rw [if_neg (by rw [hv]; decide)] at k5
        rw [← k5, if_neg (fun q => by cases q)] at h5
        simp only [go_sem, simprocAttr, rc3, lz, dz]
        rw [← h5, if_neg (fun q => by cases q.1)]
        exact out_imm rfl
      | true =>
        rw [if_pos hv] at k5
        simp only [go_sem, simprocAttr, hwj]
        exact back_of _ (by omega) ⟨j + 1, _, by omega, rfl, rfl, onS_ok hp k2, u1, gc3, k5⟩
    · have ej : nx.drop j = [] := List.drop_eq_nil_of_le (by omega)
      rw [ej] at k5
      have k5' : S = (true, L2) := k5.symm
      subst k5'
      simp only [if_true] at h5
      simp only [go_sem, simprocAttr, hwi]
      exact back_of _ (by omega) ⟨i + 1, L2, by omega, rfl, rfl, k2, k3, k4, h5⟩
  · have ei : nodes.drop i = [] := List.drop_eq_nil_of_le (by omega)
    rw [ei] at h5
    have h5' : R = (true, L) := h5.symm
    subst h5'
    obtain ⟨g1, g2⟩ := h2.get ht.1 ht.2
    have rl := rowAt_get h3
    have rc := rowAt_get h4
    have y1 := stRows_get g1
    have y6 : (bRow (L.getD to.toNat [])).length = 6 := by rw [bRow, List.length_map]; exact g2
    have yt : List.take 6 (bRow (L.getD to.toNat [])) = bRow (L.getD to.toNat []) := List.take_of_length_le (by omega)
    have htl : to < ((g.n.toNat : Nat) : Int) := by omega
    simp only [go_sem, simprocAttr, ht, htl, rl, y1, y6, yt]
    refine good_imm (only_ok _ g2) (bRow_imm _) ?_
    simp only [go_sem, simprocAttr]
    cases hv : (onlyS (L.getD to.toNat [])).2 with
    | false =>
      simp only [go_sem, simprocAttr, rc, lz, dz]
      exact out_imm rfl
    | true =>
      simp only [go_sem, simprocAttr, rc, zero2]
      exact out_imm rfl
end Go.Proofs

set_option linter.unusedSimpArgs false
set_option linter.unusedVariables false
namespace Go.Proofs
open Go.Ab

def segW (g : Gr) (p : List Int) (gone : List Bool) (s : St) (x : Sg) : Option St := if x.e = true then stepW g p gone s x.t else nodeW g p gone s x.t

theorem seg_ok (g : Gr) (p : List Int) (hp : PtsOk g p) (gone : List Bool) (c : Int) (s : St) (hs : s.n ≤ 1000) (x : Sg) (hx : -1000000000000 ≤ x.t ∧ x.t ≤ 1000000000000) : PGood Try.prog 46 [mapV g p gone c, s.val, x.val] (stepV (segW g p gone s x)) := by
  refine pgood_of_out 3 (good_of_wp isF46 (Nat.le_refl _) ?_)
  unfold ac46
  obtain ⟨xe, xt⟩ := x
  have hM : mapV g p gone c = .iptr [g.tab, .sc (.int .i64 g.n), .lst (g.ls.map Lk.row), waysV g p gone c] 0 := rfl
  simp only [go_sem, simprocAttr, St.val, St.row, Sg.val, Sg.row]
  intro sid hsid
  simp only [go_sem, simprocAttr]
  intro xid hxid
  have f1 := fun o => rowAt_fresh (o := o) hxid (j := sid) (ver := 0) (by rw [rowAt_self]; rfl)
  simp only [go_sem, simprocAttr]
  intro cid hcid
  have f2 := fun o => (rowAt_fresh (o := o) hcid (j := sid) (ver := 0) (by rw [f1, rowAt_self]; rfl)).trans ((f1 _).trans rowAt_self)
  have f3 := fun o => (rowAt_fresh (o := o) hcid (j := xid) (ver := 0) (by rw [rowAt_self]; rfl)).trans rowAt_self
  simp only [go_sem, simprocAttr, hM, f3]
  cases xe with
  | true =>
    simp only [go_sem, simprocAttr]
    unfold op46_13
    simp only [go_sem, simprocAttr, hM, f2, f3]
    refine goodD_imm (wstep_ok g p hp gone c s hs xt hx) rfl ?_
    have e : segW g p gone s ⟨true, xt⟩ = stepW g p gone s xt := rfl
    rw [e]
    cases stepW g p gone s xt with
    | none =>
      simp only [go_sem, simprocAttr, stepV]
      exact out_imm rfl
    | some t =>
      simp only [go_sem, simprocAttr, stepV, St.val, St.row]
      exact out_imm rfl
  | false =>
    simp only [go_sem, simprocAttr, hM, f2, f3]
    rw [← hM]
    refine good_imm (node_seg_ok g p hp gone c s hs xt) rfl ?_
    have e : segW g p gone s ⟨false, xt⟩ = nodeW g p gone s xt := rfl
    rw [e]
    cases nodeW g p gone s xt with
    | none =>
      simp only [go_sem, simprocAttr, stepV]
      exact out_imm rfl
    | some t =>
      simp only [go_sem, simprocAttr, stepV, St.val, St.row]
      exact out_imm rfl

theorem nodes_ok (g : Gr) (p : List Int) (gone : List Bool) (c : Int) : PGood Try.prog 47 [mapV g p gone c] (.i g.n) := by
  refine pgood_of_out 3 (good_of_wp isF47 (Nat.le_refl _) ?_)
  unfold ac47
  simp only [go_sem, simprocAttr, mapV]
  exact out_sc
theorem edges_ok (g : Gr) (hg : g.ls.length ≤ 1000000) (p : List Int) (gone : List Bool) (c : Int) : PGood Try.prog 48 [mapV g p gone c] (.i (2 * g.ls.length : Nat)) := by
  refine pgood_of_out 3 (good_of_wp isF48 (Nat.le_refl _) ?_)
  unfold ac48
  have hw : IntKind.i64.wrap (2 * (g.ls.length : Int)) = ((2 * g.ls.length : Nat) : Int) := by rw [wrap_id (by omega) (by omega)]; omega
  simp only [go_sem, simprocAttr, mapV, hw]
  exact out_sc

def mapOf (g : Gr) (w : Wt) (down : List Bool) : AVal := if (costOf g w down).2 = 0 then .tup [mapV g w.pts (goneAll g w down) (costOf g w down).1, .i 0] else .tup [.nilp, .i (costOf g w down).2]
theorem map_new_ok (g : Gr) (w : Wt) (hw : w.Few) (down : List Bool) (hd : down.length ≤ 1000000) (hg : g.ls.length ≤ 1000000) : PGood Try.prog 21 [g.tab, w.val, .lst (bools down)] (mapOf g w down) := by
  refine pgood_of_out 3 (good_of_wp isF21 (Nat.le_refl _) ?_)
  unfold ac21
  have kw : known (AVal.agg w.cells) = some w.cells := rfl
  have lw : w.cells.length = 7 := rfl
  have tw : List.take 7 w.cells = w.cells := rfl
  have htab : g.tab = .iptr [.sc (.int .i64 g.n), .lst (g.ls.map Lk.row), .lst (toRowsT g g.n.toNat), .lst (nextRowsT g g.n.toNat)] 0 := rfl
  simp only [go_sem, simprocAttr, Wt.val, kw, lw]
  intro wid hwid
  simp only [go_sem, simprocAttr, htab]
  rw [← htab]
  refine good_imm (tgraph_ok g hg) rfl ?_
  simp only [go_sem, simprocAttr, Gr.val]
  intro gid hgid
  have f1 := fun o => (rowAt_fresh (o := o) hgid (j := wid) (ver := 0) (by rw [rowAt_self]; rfl)).trans rowAt_self
  simp only [go_sem, simprocAttr, f1, lw, tw]
  refine good_imm (ways_ok g w hw down hd hg) rfl ?_
  unfold waysOf mapOf
  by_cases h0 : (costOf g w down).2 = 0
  · rw [if_pos h0, if_pos h0]
    simp only [go_sem, simprocAttr]
    have kt : known g.tab = some [g.tab] := rfl
    have kv : known (waysV g w.pts (goneAll g w down) (costOf g w down).1) = some [waysV g w.pts (goneAll g w down) (costOf g w down).1] := rfl
    simp only [go_sem, simprocAttr, kt, kv]
    intro id hid
    simp only [go_sem, simprocAttr]
    exact out_tup2 (m := 2) (out_ptr (m := 1) rowAt_self rfl ⟨out_imm rfl, out_sc, out_imm rfl, out_imm rfl, trivial⟩) out_sc
  · rw [if_neg h0, if_neg h0]
    simp only [go_sem, simprocAttr, h0]
    exact out_imm rfl

/-! ### compile: what leads on from a state -/
structure Ld where
  s : Sg
  to : St
def Ld.row (l : Ld) : List AVal := [.sc (.bool l.s.e), .sc (.int .i64 l.s.t), .sc (.int .i64 l.to.at_), .sc (.int .i64 l.to.n)]
def ldRows (l : List Ld) : List (List AVal) := l.map Ld.row
/-- What a search is about. -/
structure Cx where
  g : Gr
  p : List Int
  gone : List Bool
  c : Int
  goal : St
def Cx.map (x : Cx) : AVal := mapV x.g x.p x.gone x.c
def Cx.seg (x : Cx) (s : St) (a : Sg) : Option St := segW x.g x.p x.gone s a
def Cx.lead (x : Cx) (s : St) (a : Sg) : Option Ld := (x.seg s a).map fun t => ⟨a, t⟩
def Cx.leadsN (x : Cx) (s : St) (e : Bool) (k : Nat) : List Ld := (List.range k).filterMap fun (i : Nat) => x.lead s ⟨e, i⟩
def Cx.leads (x : Cx) (s : St) : List Ld := x.leadsN s false x.g.n.toNat ++ x.leadsN s true (2 * x.g.ls.length)
theorem Cx.leadsN_succ (x : Cx) (s : St) (e : Bool) (k : Nat) : x.leadsN s e (k + 1) = x.leadsN s e k ++ (x.lead s ⟨e, k⟩).toList := by
  unfold Cx.leadsN
  rw [List.range_succ, List.filterMap_append]
  congr 1
theorem Cx.leadsN_len (x : Cx) (s : St) (e : Bool) (k : Nat) : (x.leadsN s e k).length ≤ k := by
  have := List.length_filterMap_le (fun i : Nat => x.lead s ⟨e, i⟩) (List.range k)
  simpa [Cx.leadsN] using this
structure Cx.Ok (x : Cx) : Prop where
  pts : PtsOk x.g x.p
theorem ldRows_imm (l : List Ld) (n : Nat) : ∀ y ∈ ldRows l, ∀ c ∈ y, immA (n + 1) c = true := by
  intro y hy c hc
  simp only [ldRows, List.mem_map] at hy
  obtain ⟨k, _, rfl⟩ := hy
  simp only [Ld.row, List.mem_cons, List.mem_nil_iff, or_false] at hc
  rcases hc with rfl | rfl | rfl | rfl <;> rfl
theorem ldRows_app (a b : List Ld) : ldRows (a ++ b) = ldRows a ++ ldRows b := by simp [ldRows]
theorem ldRows_len (l : List Ld) : (ldRows l).length = l.length := by simp [ldRows]

/-- One more segment is tried. -/
theorem clo_ok (x : Cx) (hx : x.Ok) (s : St) (hs : s.n ≤ 1000) (a : Sg) (ha : -1000000000000 ≤ a.t ∧ a.t ≤ 1000000000000) (L : List Ld) (hL : L.length ≤ 10000) {σ : Store} {xid xb ab lb mid : Nat} {v : AVal} {others : List Nat}
    (h1 : σ.get xb = some (.row 0 false 1 [[.ptr xid 0 0 0]])) (h2 : σ.get ab = some (.row 0 false 2 [s.row])) (h3 : σ.get lb = some (.row 0 false 1 [[v]])) (h4 : σ.get xid = some (.row 0 false 4 [[x.map, .sc (.int .i64 x.goal.at_), .sc (.int .i64 x.goal.n), .map mid]]))
    (h5 : Acc σ 4 v (ldRows L) others) (hlb : lb ∈ others) (hot : Alive σ others) : 
    Ab.Good Try.prog 45 [a.val, .ptr xb 0 0 0, .ptr ab 0 0 0, .ptr lb 0 0 0] σ (fun r σ' => r = .tup [] ∧ ∃ v', σ'.get lb = some (.row 0 false 1 [[v']]) ∧ Acc σ' 4 v' (ldRows (L ++ (x.lead s a).toList)) others ∧ ∀ j ∈ others, j ≠ lb → σ'.get j = σ.get j) := by
  refine good_of_wp isF45 (Nat.le_refl _) ?_
  unfold ac45
  have ka : known a.val = some a.row := rfl
  have la : a.row.length = 2 := rfl
  have ta : List.take 2 a.row = a.row := rfl
  have hM : x.map = .iptr [x.g.tab, .sc (.int .i64 x.g.n), .lst (x.g.ls.map Lk.row), waysV x.g x.p x.gone x.c] 0 := rfl
  simp only [go_sem, simprocAttr, ka, la]
  intro aid haid
  have r1 := fun o => (rowAt_fresh (o := o) haid (j := xb) (ver := 0) (by rw [rowAt_get h1]; rfl)).trans (rowAt_get h1)
  have r2 := fun o => (rowAt_fresh (o := o) haid (j := ab) (ver := 0) (by rw [rowAt_get h2]; rfl)).trans (rowAt_get h2)
  have r3 := fun o => (rowAt_fresh (o := o) haid (j := lb) (ver := 0) (by rw [rowAt_get h3]; rfl)).trans (rowAt_get h3)
  have r4 := fun o => (rowAt_fresh (o := o) haid (j := xid) (ver := 0) (by rw [rowAt_get h4]; rfl)).trans (rowAt_get h4)
  have k3 := fun o => (get_fresh (o := o) haid (j := lb) (by rw [h3]; rfl)).trans h3
  have acc1 := h5.fresh haid (.row 0 false 2 [a.row])
  have halb : lb ≠ aid := fun e => by rw [← e, h3] at haid; cases haid
  have ls : s.row.length = 2 := rfl
  have ts : List.take 2 s.row = s.row := rfl
  simp only [go_sem, simprocAttr]
  unfold op45_8
  simp only [go_sem, simprocAttr, r1, r2, r3, r4, la, ta, ls, ts]
  refine goodD_imm (seg_ok x.g x.p hx.pts x.gone x.c s hs a ha) rfl ?_
  have e : segW x.g x.p x.gone s a = x.seg s a := rfl
  rw [e]
  have eL : x.lead s a = (x.seg s a).map fun t => ⟨a, t⟩ := rfl
  rw [eL]
  cases hsg : x.seg s a with
  | none =>
    simp only [go_sem, simprocAttr, stepV]
    intro tid htid
    simp only [go_sem, simprocAttr]
    refine ⟨v, ?_, ?_, fun j hj hne => ?_⟩
    · rw [get_fresh htid (by rw [k3]; rfl), k3]
    · simp only [Option.map_none, Option.toList_none, List.append_nil]
      exact (acc1.fresh htid _).less (by intro q hq; simp [hq])
    · have hja := hot j hj
      rw [get_fresh htid (by rw [get_fresh haid hja]; exact hja), get_fresh haid hja]
  | some t =>
    have kt : known t.val = some t.row := rfl
    have lt : t.row.length = 2 := rfl
    have tt : List.take 2 t.row = t.row := rfl
    simp only [go_sem, simprocAttr, stepV]
    intro tid htid
    have s3 := fun o => (rowAt_fresh (o := o) htid (j := lb) (ver := 0) (by rw [r3]; rfl)).trans (r3 _)
    have sa := fun o => (rowAt_fresh (o := o) htid (j := aid) (ver := 0) (by rw [rowAt_self]; rfl)).trans (rowAt_self (σ := σ) (id := aid) (v := 0) (fz := false) (sz := 2) (xs := [a.row]))
    have acc2 := acc1.fresh htid (.row 0 false 2 [t.row])
    have q3 := fun o => (get_fresh (o := o) htid (j := lb) (by rw [k3]; rfl)).trans (k3 _)
    simp only [go_sem, simprocAttr, kt, lt, s3, sa, la, ta, tt]
    have e2 : List.take 2 (a.row ++ [AVal.sc (.int .i64 0), .sc (.int .i64 0)]) = a.row := rfl
    have e4 : List.drop 4 (a.row ++ [AVal.sc (.int .i64 0), .sc (.int .i64 0)]) = [] := rfl
    have hld : a.row ++ t.row = Ld.row ⟨a, t⟩ := rfl
    simp only [go_sem, simprocAttr, e2, e4, la, hld]
    intro nid hnid
    simp only [go_sem, simprocAttr]
    refine acc_append (acc2.fresh hnid _) (by simp only [ldRows_len, List.length_cons, List.length_nil]; omega) (by simp only [ldRows_len, List.length_cons, List.length_nil]; omega) fun v' σ' a3 e3 => ?_
    have hal := hot lb hlb
    have g1 : σ'.get lb = _ := (e3 lb (by simp [hlb])).trans ((get_fresh hnid (by rw [q3]; rfl)).trans (q3 _))
    have rl := rowAt_get g1
    have kn := a3.known
    simp only [go_sem, simprocAttr, rl, kn]
    refine ⟨v', ?_, ?_, fun j hj hne => ?_⟩
    · rw [Store.get_set_self]
    · have er : ldRows L ++ [Ld.row ⟨a, t⟩] = ldRows (L ++ (Option.map (fun t => (⟨a, t⟩ : Ld)) (some t)).toList) := by simp [ldRows]
      rw [er] at a3
      exact (a3.less (by intro q hq; simp [hq])).other hlb _
    · have hja := hot j hj
      have i1 : (σ.set aid (.row 0 false 2 [a.row])).get j = σ.get j := get_fresh haid hja
      have i2 : ((σ.set aid (.row 0 false 2 [a.row])).set tid (.row 0 false 2 [t.row])).get j = σ.get j := by rw [get_fresh htid (by rw [i1]; exact hja), i1]
      rw [Store.get_set_ne _ _ hne, e3 j (by simp [hj]), get_fresh hnid (by rw [i2]; exact hja), i2]
end Go.Proofs

set_option linter.unusedSimpArgs false
set_option linter.unusedVariables false
namespace Go.Proofs
open Go.Ab

/-- States as keys of maps. -/
def stEnc : KeyEnc St where
  enc := St.val
  ag := true
  ks := [0, 0]
  cells := St.row
  hc := fun _ => rfl
  eq := fun a b => by
    refine ⟨(a.at_ == b.at_ && (((a.n : Int) == (b.n : Int)) && true)), rfl, ?_⟩
    obtain ⟨a1, a2⟩ := a
    obtain ⟨b1, b2⟩ := b
    simp only [Bool.and_true, Bool.and_eq_true, beq_iff_eq, St.mk.injEq]
    omega
structure SearchAt (σ : Store) (x : Cx) (xid mid : Nat) : Prop where
  obj : σ.get xid = some (.row 0 false 4 [[x.map, .sc (.int .i64 x.goal.at_), .sc (.int .i64 x.goal.n), .map mid]])
  mp : ∃ es f, σ.get mid = some (.mp es) ∧ MapOf stEnc es f ∧ ∀ s v, f s = some v → v = .lst (ldRows (x.leads s))
theorem SearchAt.keep {σ σ' : Store} {x : Cx} {xid mid : Nat} (h : SearchAt σ x xid mid) (h1 : σ'.get xid = σ.get xid) (h2 : σ'.get mid = σ.get mid) : SearchAt σ' x xid mid :=
  ⟨h1.trans h.obj, by obtain ⟨es, f, k1, k2⟩ := h.mp; exact ⟨es, f, h2.trans k1, k2⟩⟩
theorem SearchAt.ne {σ : Store} {x : Cx} {xid mid : Nat} (h : SearchAt σ x xid mid) : xid ≠ mid := fun e => by
  obtain ⟨es, f, k1, _⟩ := h.mp
  have := h.obj
  rw [e, k1] at this
  cases this

structure FromAt (σ : Store) (σ0 : Store) (x : Cx) (s : St) (xid mid xb ab lb : Nat) (others : List Nat) (v : AVal) (L : List Ld) : Prop where
  fxb : σ.get xb = some (.row 0 false 1 [[.ptr xid 0 0 0]])
  fab : σ.get ab = some (.row 0 false 2 [s.row])
  flb : σ.get lb = some (.row 0 false 1 [[v]])
  acc : Ab.Acc σ 4 v (ldRows L) (lb :: xb :: ab :: xid :: mid :: others)
  same : ∀ j ∈ xid :: mid :: others, σ.get j = σ0.get j

theorem from_search_ok (x : Cx) (hx : x.Ok) (s : St) (hs : s.n ≤ 1000) {σ : Store} {xid mid : Nat} {others : List Nat} (h : SearchAt σ x xid mid) (hal : Alive σ others) (hno : mid ∉ others) :
    Ab.Good Try.prog 26 [.ptr xid 0 0 0, s.val] σ (fun v σ' => v = .lst (ldRows (x.leads s)) ∧ SearchAt σ' x xid mid ∧ ∀ j ∈ others, σ'.get j = σ.get j) := by
  refine Ab.Good.weak ?_
  refine good_of_wp isF26 (Nat.le_refl _) ?_
  unfold ac26
  have ks : known s.val = some s.row := rfl
  have ls : s.row.length = 2 := rfl
  have ts : List.take 2 s.row = s.row := rfl
  have hok := hx.pts.ok
  have hn40 := hok.2.2.1
  have hn1 := hok.2.1
  have hls := hok.1
  obtain ⟨es, f, hmp, hmo, hval⟩ := h.mp
  obtain ⟨r, hr1, hr2, hr3⟩ := hmo.find s
  have hne := h.ne
  simp only [go_sem, simprocAttr]
  intro xb hxb
  simp only [go_sem, simprocAttr, ks, ls]
  intro ab hab
  have ax : (σ.get xid).isSome = true := by rw [h.obj]; rfl
  have am : (σ.get mid).isSome = true := by rw [hmp]; rfl
  have nxb : ∀ j, (σ.get j).isSome = true → j ≠ xb := fun j hj e => by rw [e, hxb] at hj; cases hj
  have g1 : ∀ j o, (σ.get j).isSome = true → (σ.set xb o).get j = σ.get j := fun j o hj => get_fresh hxb hj
  have nab : ∀ j, (σ.get j).isSome = true → j ≠ ab := fun j hj e => by rw [← e, g1 j _ hj] at hab; rw [hab] at hj; cases hj
  have nba : xb ≠ ab := fun e => by rw [← e] at hab; simp at hab
  have g2 : ∀ j o, (σ.get j).isSome = true → ((σ.set xb (.row 0 false 1 [[.ptr xid 0 0 0]])).set ab o).get j = σ.get j := fun j o hj => by rw [Store.get_set_ne _ _ (nab j hj), g1 j _ hj]
  have b2 : ∀ o, ((σ.set xb (.row 0 false 1 [[.ptr xid 0 0 0]])).set ab o).get xb = some (.row 0 false 1 [[.ptr xid 0 0 0]]) := fun o => by rw [Store.get_set_ne _ _ nba]; simp
  have rb := fun o => rowAt_get (b2 o)
  have rx := fun o => rowAt_get ((g2 xid o ax).trans h.obj)
  have kk : AVal.agg s.row = s.val := rfl
  simp only [go_sem, simprocAttr]
  unfold op26_12
  have lk : lookR ((σ.set xb (.row 0 false 1 [[.ptr xid 0 0 0]])).set ab (.row 0 false 2 [s.row])) true true [0, 0] .nils (.map mid) s.val = .val (lookV true .nils r) ((σ.set xb (.row 0 false 1 [[.ptr xid 0 0 0]])).set ab (.row 0 false 2 [s.row])) := lookR_of ((g2 mid _ am).trans hmp) hr1
  simp only [go_sem, simprocAttr, rb, rx, ls, ts, kk, lk]
  cases hrr : r with
  | some q =>
    obtain ⟨qi, qv⟩ := q
    have hv : qv = .lst (ldRows (x.leads s)) := hval s qv (by rw [← hr2, hrr]; rfl)
    subst hv
    simp only [go_sem, simprocAttr, lookV]
    refine ⟨.lst (ldRows (x.leads s)), _, Weak.of_le (Fr.le_refl _), rfl, h.keep (g2 _ _ ax) (g2 _ _ am), fun j hj => g2 j _ (hal j hj)⟩
  | none =>
  simp only [go_sem, simprocAttr, lookV]
  intro lb hlb
  have nlb : ∀ j, (σ.get j).isSome = true → j ≠ lb := fun j hj e => by rw [← e, g2 j _ hj] at hlb; rw [hlb] at hj; cases hj
  have nlx : xb ≠ lb := fun e => by rw [← e, b2] at hlb; cases hlb
  have nla : ab ≠ lb := fun e => by rw [← e] at hlb; simp at hlb
  have F0 : FromAt (((σ.set xb (.row 0 false 1 [[.ptr xid 0 0 0]])).set ab (.row 0 false 2 [s.row])).set lb (.row 0 false 1 [[.nils]])) σ x s xid mid xb ab lb others .nils [] := by
    refine ⟨by rw [Store.get_set_ne _ _ nlx, b2], by rw [Store.get_set_ne _ _ nla]; simp, by simp, acc_nils ?_, fun j hj => ?_⟩
    · refine alive_cons (Store.get_set_self _ _ _) (alive_cons (o := .row 0 false 1 [[.ptr xid 0 0 0]]) (by rw [Store.get_set_ne _ _ nlx, b2]) (alive_cons (o := .row 0 false 2 [s.row]) (by rw [Store.get_set_ne _ _ nla]; simp) ?_))
      refine Alive.set ?_ lb _
      refine Alive.set ?_ ab _
      refine Alive.set ?_ xb _
      exact alive_cons h.obj (alive_cons hmp hal)
    · have hj' : (σ.get j).isSome = true := by
        rcases List.mem_cons.1 hj with rfl | hj
        · exact ax
        · rcases List.mem_cons.1 hj with rfl | hj
          · exact am
          · exact hal j hj
      rw [Store.get_set_ne _ _ (nlb j hj'), g2 j _ hj']
  have rb3 : Ab.rowAt (((σ.set xb (.row 0 false 1 [[.ptr xid 0 0 0]])).set ab (.row 0 false 2 [s.row])).set lb (.row 0 false 1 [[.nils]])) xb 0 = _ := rowAt_get F0.fxb
  have rx3 : Ab.rowAt (((σ.set xb (.row 0 false 1 [[.ptr xid 0 0 0]])).set ab (.row 0 false 2 [s.row])).set lb (.row 0 false 1 [[.nils]])) xid 0 = _ := rowAt_get ((F0.same xid (by simp)).trans h.obj)
  generalize (((σ.set xb (.row 0 false 1 [[.ptr xid 0 0 0]])).set ab (.row 0 false 2 [s.row])).set lb (.row 0 false 1 [[.nils]])) = τ0 at *
  simp only [go_sem, simprocAttr, rb3, rx3]
  refine good_imm (nodes_ok x.g x.p x.gone x.c) rfl ?_
  have hnn : x.g.n = ((x.g.n.toNat : Nat) : Int) := by omega
  rw [hnn]
  simp only [go_sem, simprocAttr]
  refine loop_rule (fun m fr τ => ∃ (i : Nat) (v : AVal), i ≤ x.g.n.toNat ∧ m = x.g.n.toNat - i ∧ fr = [(2, .ptr xb 0 0 0), (3, .ptr ab 0 0 0), (7, .ptr lb 0 0 0), (8, .func 45 [.ptr xb 0 0 0, .ptr ab 0 0 0, .ptr lb 0 0 0]), (27, .i (x.g.n.toNat : Nat)), (28, .i i)] ∧ FromAt τ σ x s xid mid xb ab lb others v (x.leadsN s false i)) x.g.n.toNat ⟨0, .nils, by omega, rfl, rfl, F0⟩ ?_
  clear F0 rb3 rx3
  rintro m fr τ ⟨i, v, h1, rfl, rfl, F⟩
  have hwi : IntKind.i64.wrap ((i : Int) + 1) = ((i + 1 : Nat) : Int) := by rw [wrap_id (by omega) (by omega)]; rfl
  have allA : ∀ {τ : Store} {v : AVal} {L : List Ld}, FromAt τ σ x s xid mid xb ab lb others v L → Alive τ (lb :: xb :: ab :: xid :: mid :: others) := fun F => F.acc.1
  simp only [go_sem, simprocAttr]
  refine .intro (fun hi => ?_) (fun hi => ?_)
  · simp only [go_sem, simprocAttr]
    have hln := x.leadsN_len s false i
    refine (clo_ok x hx s hs ⟨false, i⟩ (by simp only; omega) (x.leadsN s false i) (by omega) F.fxb F.fab F.flb ((F.same xid (by simp)).trans h.obj) F.acc (by simp) F.acc.1).mono fun rv τ2 hv => ?_
    obtain ⟨rfl, v', c1, c2, c3⟩ := hv
    simp only [go_sem, simprocAttr, hwi]
    refine back_of _ (by omega) ⟨i + 1, v', by omega, rfl, rfl, ⟨?_, ?_, c1, ?_, fun j hj => ?_⟩⟩
    · rw [c3 xb (by simp) nlx]; exact F.fxb
    · rw [c3 ab (by simp) nla]; exact F.fab
    · rw [x.leadsN_succ]; exact c2
    · have hj' : (σ.get j).isSome = true := by
        rcases List.mem_cons.1 hj with rfl | hj
        · exact ax
        · rcases List.mem_cons.1 hj with rfl | hj
          · exact am
          · exact hal j hj
      rw [c3 j (by simp only [List.mem_cons] at hj ⊢; exact .inr (.inr (.inr hj))) (nlb j hj'), F.same j hj]
  have ei : i = x.g.n.toNat := by omega
  rw [ei] at F
  have rb3 := rowAt_get F.fxb
  have rx3 := rowAt_get ((F.same xid (by simp)).trans h.obj)
  simp only [go_sem, simprocAttr, rb3, rx3]
  refine good_imm (edges_ok x.g (by omega) x.p x.gone x.c) rfl ?_
  simp only [go_sem, simprocAttr]
  refine loop_rule (fun m fr τ => ∃ (i : Nat) (v : AVal), i ≤ 2 * x.g.ls.length ∧ m = 2 * x.g.ls.length - i ∧ fr = [(2, .ptr xb 0 0 0), (3, .ptr ab 0 0 0), (7, .ptr lb 0 0 0), (8, .func 45 [.ptr xb 0 0 0, .ptr ab 0 0 0, .ptr lb 0 0 0]), (40, .i (2 * x.g.ls.length : Nat)), (41, .i i)] ∧ FromAt τ σ x s xid mid xb ab lb others v (x.leadsN s false x.g.n.toNat ++ x.leadsN s true i)) (2 * x.g.ls.length) ⟨0, v, by omega, rfl, rfl, by simpa [Cx.leadsN] using F⟩ ?_
  clear F rb3 rx3 hwi hi h1 ei
  rintro m fr τ ⟨i, v, h1, rfl, rfl, F⟩
  have hwi : IntKind.i64.wrap ((i : Int) + 1) = ((i + 1 : Nat) : Int) := by rw [wrap_id (by omega) (by omega)]; rfl
  simp only [go_sem, simprocAttr]
  refine .intro (fun hi => ?_) (fun hi => ?_)
  · simp only [go_sem, simprocAttr]
    have hln := x.leadsN_len s false x.g.n.toNat
    have hln2 := x.leadsN_len s true i
    refine (clo_ok x hx s hs ⟨true, i⟩ (by simp only; omega) _ (by rw [List.length_append]; omega) F.fxb F.fab F.flb ((F.same xid (by simp)).trans h.obj) F.acc (by simp) F.acc.1).mono fun rv τ2 hv => ?_
    obtain ⟨rfl, v', c1, c2, c3⟩ := hv
    simp only [go_sem, simprocAttr, hwi]
    refine back_of _ (by omega) ⟨i + 1, v', by omega, rfl, rfl, ⟨?_, ?_, c1, ?_, fun j hj => ?_⟩⟩
    · rw [c3 xb (by simp) nlx]; exact F.fxb
    · rw [c3 ab (by simp) nla]; exact F.fab
    · rw [x.leadsN_succ, ← List.append_assoc]; exact c2
    · have hj' : (σ.get j).isSome = true := by
        rcases List.mem_cons.1 hj with rfl | hj
        · exact ax
        · rcases List.mem_cons.1 hj with rfl | hj
          · exact am
          · exact hal j hj
      rw [c3 j (by simp only [List.mem_cons] at hj ⊢; exact .inr (.inr (.inr hj))) (nlb j hj'), F.same j hj]
  have ei : i = 2 * x.g.ls.length := by omega
  rw [ei] at F
  have eL : x.leadsN s false x.g.n.toNat ++ x.leadsN s true (2 * x.g.ls.length) = x.leads s := rfl
  rw [eL] at F
  have rb3 := rowAt_get F.fxb
  have ra3 := rowAt_get F.fab
  have rl3 := rowAt_get F.flb
  have rx3 := rowAt_get ((F.same xid (by simp)).trans h.obj)
  have gm := (F.same mid (by simp)).trans hmp
  have kn := F.acc.known
  have hr1' : lookK true [0, 0] s.val es = some none := by rw [← hrr]; exact hr1
  have upd : updR τ true [0, 0] (.map mid) s.val v = .val (.tup []) (τ.set mid (.mp (updEs es s.val v none))) := updR_of gm hr1'
  have rl4 : Ab.rowAt (τ.set mid (.mp (updEs es s.val v none))) lb 0 = some (false, 1, [[v]]) := by
    rw [rowAt_ne (fun e => (nlb mid am) e.symm)]; exact rl3
  simp only [go_sem, simprocAttr]
  unfold op26_49
  simp only [go_sem, simprocAttr, rb3, ra3, rl3, rx3, ls, ts, kk, upd, rl4]
  -- the leads are done
  have hacc : Acc (τ.set mid (.mp (updEs es s.val v none))) 4 v (ldRows (x.leads s)) (lb :: xb :: ab :: xid :: mid :: others) := F.acc.other (by simp) _
  let P : Nat → Bool := fun j => (objs v).contains j
  have hthaw : Thaw 3 ((τ.set mid (.mp (updEs es s.val v none))).freeze P) v (.lst (ldRows (x.leads s))) := acc_thaw (m := 1) hacc (ldRows_imm _ 1) (fun id ver off len sz e => by subst e; simp [P, objs])
  have hnot : ∀ j ∈ lb :: xb :: ab :: xid :: mid :: others, P j = false := fun j hj => by
    cases hp : P j with
    | false => rfl
    | true =>
      have hp' : j ∈ objs v := by simpa [P] using hp
      exact absurd hj (hacc.objs_not j hp')
  have gmz : ((τ.set mid (.mp (updEs es s.val v none))).freeze P).get mid = some (.mp (updEs es s.val v none)) := by rw [Store.get_freeze]; simp
  refine ⟨.lst (ldRows (x.leads s)), ((τ.set mid (.mp (updEs es s.val v none))).freeze P).set mid (.mp (updEs es s.val (.lst (ldRows (x.leads s))) none)), ?_, rfl, ?_, fun j hj => ?_⟩
  · refine (weak_freeze P).trans ((weak_slots (n := 3) (fr0 := [(0, .lst (ldRows (x.leads s)))]) (fun q hq => ?_)).trans (weak_map (n := 3) gmz (by simp [updEs]) (fun i k u k' u' hi hi' => ?_)))
    · simp only [List.mem_singleton] at hq
      subst hq
      exact .inr hthaw
    · simp only [updEs] at hi hi'
      by_cases hlt : i < es.length
      · rw [List.getElem?_append_left hlt] at hi hi'
        rw [hi] at hi'
        injection hi' with hi'
        injection hi' with e1 e2
        exact ⟨e1.symm, .inl e2.symm⟩
      · rw [List.getElem?_append_right (by omega)] at hi hi'
        cases hd : i - es.length with
        | zero =>
          rw [hd] at hi hi'
          simp only [List.getElem?_cons_zero, Option.some.injEq, Prod.mk.injEq] at hi hi'
          obtain ⟨rfl, rfl⟩ := hi
          obtain ⟨rfl, rfl⟩ := hi'
          exact ⟨rfl, .inr hthaw⟩
        | succ d => rw [hd] at hi; simp at hi
  · refine ⟨?_, updEs es s.val (.lst (ldRows (x.leads s))) none, _, Store.get_set_self _ _ _, mapOf_upd hmo s (.lst (ldRows (x.leads s))) hr1', fun s' v' hv' => ?_⟩
    · rw [Store.get_set_ne _ _ hne, get_frz (hnot xid (by simp)), Store.get_set_ne _ _ hne]
      exact (F.same xid (by simp)).trans h.obj
    · split at hv'
      · rename_i e
        subst e
        injection hv' with hv'
        exact hv'.symm
      · exact hval s' v' hv'
  · have hjm : j ≠ mid := fun e => hno (e ▸ hj)
    rw [Store.get_set_ne _ _ hjm, get_frz (hnot j (by simp [hj])), Store.get_set_ne _ _ hjm]
    exact F.same j (by simp [hj])
end Go.Proofs

set_option linter.unusedSimpArgs false
set_option linter.unusedVariables false
namespace Go.Proofs
open Go.Ab

/-! ### compile.rounds -/
theorem nodup_lt : ∀ (N : Nat) (l : List Nat), l.Nodup → (∀ x ∈ l, x < N) → l.length ≤ N
  | 0, l, _, h => by
    cases l with
    | nil => simp
    | cons a l => have := h a (by simp); omega
  | N + 1, l, hd, h => by
    by_cases hm : N ∈ l
    · have := nodup_lt N (l.erase N) (hd.erase N) (fun x hx => by
        have h1 := h x (List.mem_of_mem_erase hx)
        have h2 : x ≠ N := fun e => by
          subst e
          exact (List.Nodup.mem_erase_iff hd).1 hx |>.1 rfl
        omega)
      rw [List.length_erase_of_mem hm] at this
      omega
    · have := nodup_lt N l hd (fun x hx => by
        have h1 := h x hx
        have h2 : x ≠ N := fun e => hm (e ▸ hx)
        omega)
      omega
/-- A state that can be. -/
def VSt (g : Gr) (s : St) : Prop := (0 ≤ s.at_ ∧ s.at_ < g.n) ∧ s.n < 7
theorem states_len {g : Gr} (hg : g.Ok) {l : List St} (hd : l.Nodup) (hv : ∀ s ∈ l, VSt g s) : l.length ≤ 280 := by
  have hn := hg.2.2.1
  have key : (l.map fun s => s.at_.toNat * 7 + s.n).length ≤ 280 := by
    refine nodup_lt 280 _ ?_ fun x hx => ?_
    · refine List.pairwise_map.2 (List.Pairwise.imp_of_mem (fun {a b} ha hb hab e => hab ?_) hd)
      obtain ⟨⟨a1, a2⟩, a3⟩ := hv a ha
      obtain ⟨⟨b1, b2⟩, b3⟩ := hv b hb
      obtain ⟨aa, an⟩ := a
      obtain ⟨ba, bn⟩ := b
      simp only at *
      simp only [St.mk.injEq]
      omega
    · obtain ⟨s, hs, rfl⟩ := List.mem_map.1 hx
      obtain ⟨⟨a1, a2⟩, a3⟩ := hv s hs
      omega
  simpa using key

theorem onlyF_lt (row : List Bool) : ∀ (f i : Nat) (a : Nat × Nat), i + f ≤ 6 → a.1 < 7 → (onlyF row f i a).1 < 7
  | 0, _, a, _, h => h
  | f + 1, i, a, h1, h => by
    unfold onlyF
    refine onlyF_lt row f (i + 1) _ (by omega) ?_
    split
    · show i < 7; omega
    · exact h
theorem seg_valid {x : Cx} (hx : x.Ok) {s t : St} {a : Sg} (h : x.seg s a = some t) : VSt x.g t := by
  unfold Cx.seg segW at h
  split at h
  · obtain ⟨h1, h2, _⟩ := step_ok_range hx.pts h
    have := hx.pts.len
    exact ⟨h1, by omega⟩
  · unfold nodeW at h
    split at h
    · cases h
    · rename_i hc
      split at h
      · injection h with h
        subst h
        have hd : ¬ wdist x.g s.at_ a.t < 0 := fun q => hc (.inr (.inl q))
        exact ⟨(wdist_rng hd).2, onlyF_lt _ 6 0 (0, 0) (by omega) (by decide)⟩
      · cases h
theorem lead_valid {x : Cx} (hx : x.Ok) {s : St} {l : Ld} (h : l ∈ x.leads s) : VSt x.g l.to ∧ x.seg s l.s = some l.to := by
  have key : ∀ e k, l ∈ x.leadsN s e k → VSt x.g l.to ∧ x.seg s l.s = some l.to := fun e k hm => by
    unfold Cx.leadsN at hm
    obtain ⟨i, _, hi⟩ := List.mem_filterMap.1 hm
    unfold Cx.lead at hi
    obtain ⟨t, ht, rfl⟩ := Option.map_eq_some_iff.1 hi
    exact ⟨seg_valid hx ht, ht⟩
  rcases List.mem_append.1 h with h | h
  · exact key _ _ h
  · exact key _ _ h

def seenStep (a : List St × List St) (t : St) : List St × List St := if t ∈ a.1 then a else (a.1 ++ [t], a.2 ++ [t])
def Cx.roundIn (x : Cx) (a : List St × List St) (s : St) : List St × List St := (x.leads s).foldl (fun a l => seenStep a l.to) a
def Cx.round (x : Cx) (seen cur : List St) : List St × List St := cur.foldl x.roundIn (seen, [])
def Cx.roundsF (x : Cx) : Nat → List St → List (List St) → List St → Option (List (List St))
  | k, seen, out, cur => if x.goal ∈ seen then some out else match k with
    | 0 => none
    | k + 1 => Cx.roundsF x k (x.round seen cur).1 (out ++ [(x.round seen cur).2]) (x.round seen cur).2
structure SInv (x : Cx) (seen0 : List St) (a : List St × List St) : Prop where
  eq : a.1 = seen0 ++ a.2
  nd : a.1.Nodup
  val : ∀ s ∈ a.1, VSt x.g s
theorem SInv.step {x : Cx} {seen0 : List St} {a : List St × List St} (h : SInv x seen0 a) {t : St} (ht : VSt x.g t) : SInv x seen0 (seenStep a t) := by
  unfold seenStep
  split
  · exact h
  · rename_i hn
    refine ⟨by simp only; rw [h.eq, List.append_assoc], ?_, fun s hs => ?_⟩
    · rw [List.nodup_append]
      exact ⟨h.nd, by simp, fun s hs u hu e => by simp at hu; subst hu; subst e; exact hn hs⟩
    · rcases List.mem_append.1 hs with hs | hs
      · exact h.val s hs
      · rw [List.mem_singleton.1 hs]; exact ht
theorem SInv.fold {x : Cx} {seen0 : List St} : ∀ (l : List Ld) (a : List St × List St), SInv x seen0 a → (∀ q ∈ l, VSt x.g q.to) → SInv x seen0 (l.foldl (fun a l => seenStep a l.to) a)
  | [], a, h, _ => h
  | q :: l, a, h, hl => SInv.fold l _ (h.step (hl q (by simp))) fun y hy => hl y (by simp [hy])
theorem SInv.in_ {x : Cx} (hx : x.Ok) {seen0 : List St} {a : List St × List St} (h : SInv x seen0 a) (s : St) : SInv x seen0 (x.roundIn a s) := h.fold _ _ fun q hq => (lead_valid hx hq).1
theorem SInv.foldIn {x : Cx} (hx : x.Ok) {seen0 : List St} : ∀ (l : List St) (a : List St × List St), SInv x seen0 a → SInv x seen0 (l.foldl x.roundIn a)
  | [], a, h => h
  | q :: l, a, h => SInv.foldIn hx l _ (h.in_ hx q)
theorem SInv.len {x : Cx} (hx : x.Ok) {seen0 : List St} {a : List St × List St} (h : SInv x seen0 a) : a.1.length ≤ 280 ∧ a.2.length ≤ 280 := by
  have := states_len hx.pts.ok h.nd h.val
  have h2 := congrArg List.length h.eq
  rw [List.length_append] at h2
  omega

def stR (l : List St) : List (List AVal) := l.map St.row
def rRows (R : List (List St)) : List (List AVal) := R.map fun r => [.lst (stR r)]
theorem stR_len (l : List St) : (stR l).length = l.length := by simp [stR]
theorem rRows_len (l : List (List St)) : (rRows l).length = l.length := by simp [rRows]
theorem stR_app (a b : List St) : stR (a ++ b) = stR a ++ stR b := by simp [stR]
theorem rRows_app (a b : List (List St)) : rRows (a ++ b) = rRows a ++ rRows b := by simp [rRows]
theorem stR_imm (l : List St) (n : Nat) : ∀ y ∈ stR l, ∀ c ∈ y, immA (n + 1) c = true := by
  intro y hy c hc
  simp only [stR, List.mem_map] at hy
  obtain ⟨k, _, rfl⟩ := hy
  simp only [St.row, List.mem_cons, List.mem_nil_iff, or_false] at hc
  rcases hc with rfl | rfl <;> rfl
theorem rRows_imm (l : List (List St)) (n : Nat) : ∀ y ∈ rRows l, ∀ c ∈ y, immA (n + 1) c = true := by
  intro y hy c hc
  simp only [rRows, List.mem_map] at hy
  obtain ⟨k, _, rfl⟩ := hy
  simp only [List.mem_cons, List.mem_nil_iff, or_false] at hc
  rw [hc]; rfl

/-- A map that is a set of states. -/
def SetAt (σ : Store) (sm : Nat) (seen : List St) : Prop := ∃ es, σ.get sm = some (.mp es) ∧ MapOf stEnc es (fun s => if s ∈ seen then some (.sc (.bool true)) else none)
theorem SetAt.keep {σ σ' : Store} {sm : Nat} {seen : List St} (h : SetAt σ sm seen) (h1 : σ'.get sm = σ.get sm) : SetAt σ' sm seen := by
  obtain ⟨es, k1, k2⟩ := h
  exact ⟨es, h1.trans k1, k2⟩
theorem SetAt.look {σ : Store} {sm : Nat} {seen : List St} (h : SetAt σ sm seen) (s : St) : lookR σ false true [0, 0] (.sc (.bool false)) (.map sm) s.val = .val (.sc (.bool (decide (s ∈ seen)))) σ := by
  obtain ⟨es, k1, k2⟩ := h
  obtain ⟨r, h1, h2, h3⟩ := k2.find s
  have h1' : lookK true [0, 0] s.val es = some r := h1
  rw [lookR_of k1 h1']
  congr 1
  by_cases hs : s ∈ seen
  · rw [if_pos hs] at h2
    cases r with
    | none => cases h2
    | some q => obtain ⟨i, v⟩ := q; simp only [Option.map_some, Option.some.injEq] at h2; subst h2; simp [lookV, hs]
  · rw [if_neg hs] at h2
    cases r with
    | none => simp [lookV, hs]
    | some q => cases h2
theorem SetAt.upd {σ : Store} {sm : Nat} {seen : List St} (h : SetAt σ sm seen) (s : St) : ∃ o, updR σ true [0, 0] (.map sm) s.val (.sc (.bool true)) = .val (.tup []) (σ.set sm o) ∧ SetAt (σ.set sm o) sm (seen ++ [s]) := by
  obtain ⟨es, k1, k2⟩ := h
  obtain ⟨r, h1, h2, h3⟩ := k2.find s
  refine ⟨_, updR_of k1 h1, _, Store.get_set_self _ _ _, ?_⟩
  have := mapOf_upd k2 s (.sc (.bool true)) h1
  have e : (fun b => if b = s then some (AVal.sc (.bool true)) else if b ∈ seen then some (AVal.sc (.bool true)) else none) = fun b => if b ∈ seen ++ [s] then some (AVal.sc (.bool true)) else none := by
    funext b
    by_cases hb : b = s
    · simp [hb]
    · simp [hb]
  rw [e] at this
  exact this
theorem setAt_nil {σ : Store} {sm : Nat} (h : σ.get sm = some (.mp [])) : SetAt σ sm [] := ⟨[], h, by simpa using mapOf_nil (E := stEnc)⟩
end Go.Proofs
