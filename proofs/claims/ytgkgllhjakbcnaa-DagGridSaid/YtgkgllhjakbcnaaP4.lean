/- A part of the proof: lemmas alone, no statement. -/
import Derived.Test.YtgkgllhjakbcnaaP3
import Derived.Test.YtgkgllhjakbcnaaP2
set_option linter.unusedVariables false
set_option linter.unusedSimpArgs false
set_option linter.unnecessarySimpa false
set_option linter.unusedSectionVars false
set_option linter.unusedSimpArgs false
set_option linter.unusedVariables false
namespace Go.Proofs
open Go.Ab

def siftDown : Nat → List (Int × Int) → Nat → List (Int × Int)
  | 0, l, _ => l
  | f + 1, l, i => if leastOf l i = i then l else siftDown f (hswap l i (leastOf l i)) (leastOf l i)
def popped (l : List (Int × Int)) : List (Int × Int) := siftDown l.length ((l.set 0 (hg l (l.length - 1))).take (l.length - 1)) 0

theorem pairs_sc (l : List (Int × Int)) : ∀ y ∈ pairs l, ∀ c ∈ y, ∃ v, c = .sc v := by
  intro y hy c hc
  simp only [pairs, List.mem_map] at hy
  obtain ⟨p, _, rfl⟩ := hy
  simp at hc
  rcases hc with rfl | rfl
  · exact ⟨_, rfl⟩
  · exact ⟨_, rfl⟩
theorem heap_out {σ : Store} {hp : Nat} {l : List (Int × Int)} {others : List Nat} (h : HeapAt σ hp l others) : Out 4 σ (.ptr hp 0 0 0) (.iptr [.lst (pairs l)] 0) := by
  obtain ⟨_, v, h1, h2⟩ := h
  exact out_ptr1 (rowAt_get h1) rfl (acc_out (m := 1) h2 (pairs_sc l))
theorem pairs_take (l : List (Int × Int)) (n : Nat) : (pairs l).take n = pairs (l.take n) := by simp [pairs, List.map_take]
theorem better_or (l : List (Int × Int)) (b k : Nat) : (better l b k = k ∧ k < l.length) ∨ better l b k = b := by
  unfold better
  split
  · rename_i h; exact .inl ⟨rfl, h.1⟩
  · exact .inr rfl
theorem leastOf_le (l : List (Int × Int)) (i : Nat) : i ≤ leastOf l i ∧ (leastOf l i ≠ i → leastOf l i < l.length) := by
  unfold leastOf
  rcases better_or l (better l i (2 * i + 1)) (2 * i + 2) with ⟨h1, h2⟩ | h1 <;> rw [h1]
  · exact ⟨by omega, fun _ => h2⟩
  · rcases better_or l i (2 * i + 1) with ⟨h3, h4⟩ | h3 <;> rw [h3]
    · exact ⟨by omega, fun _ => h4⟩
    · exact ⟨Nat.le_refl _, fun h => absurd rfl h⟩

theorem pop_ok (σ : Store) (hp : Nat) (l : List (Int × Int)) (others : List Nat) (h : HeapAt σ hp l others) (hl : l.length < 1000000000) :
    Ab.Good Try.prog 52 [.ptr hp 0 0 0] σ (fun r σ' => if l = [] then r = .tup [.i 0, .i 0, .b false] ∧ HeapAt σ' hp [] others ∧ (∀ j ∈ others, σ'.get j = σ.get j)
      else r = .tup [.i (hg l 0).1, .i (hg l 0).2, .b true] ∧ HeapAt σ' hp (popped l) others ∧ ∀ j ∈ others, σ'.get j = σ.get j) := by
  refine good_of_wp isF52 (Nat.le_refl _) ?_
  unfold ac52
  simp only [go_sem, simprocAttr]
  refine good_out 4 (outL1 (heap_out h)) (hlen_ok l) rfl ?_
  simp only [go_sem, simprocAttr]
  refine .intro (fun h1 => ?_) (fun h1 => ?_)
  · simp only [go_sem, simprocAttr]
    have e : l = [] := List.eq_nil_of_length_eq_zero (by omega)
    subst e
    simp only [if_true, true_and]
    exact ⟨h, fun _ _ => trivial⟩
  have hne : l ≠ [] := fun e => h1 (by rw [e]; rfl)
  have hpos : 0 < l.length := by omega
  simp only [hne, if_false]
  obtain ⟨h0, v, q1, q2⟩ := h
  obtain ⟨id, ver, off, xs, rfl, at1⟩ := q2.at (by rw [pairs_len]; exact hpos)
  have r1 := rowAt_get q1
  have r2 := at1.row
  have x0 : xs[off]? = some [.sc (.int .i64 (hg l 0).1), .sc (.int .i64 (hg l 0).2)] := at1.get (hg_row hpos)
  have n0 : (0 : Int) < l.length := by omega
  simp only [go_sem, simprocAttr, r1, r2, n0, x0]
  intro id2 hid2
  have f1 := fun o => rowAt_fresh (o := o) hid2 (j := hp) (ver := 0) (by rw [r1]; rfl)
  have f2 := fun o => rowAt_fresh (o := o) hid2 (j := id) (ver := ver) (by rw [r2]; rfl)
  have w1 : IntKind.i64.wrap ((l.length : Int) - 1) = ((l.length - 1 : Nat) : Int) := by rw [wrap_id (by omega) (by omega)]; omega
  simp only [go_sem, simprocAttr, f1, f2, r1, r2, w1]
  unfold op52_24
  have hlast : l.length - 1 < l.length := by omega
  have x1 := at1.get (hg_row hlast)
  have n1 : (0 : Int) ≤ ((l.length - 1 : Nat) : Int) := by omega
  have n2 : ((l.length - 1 : Nat) : Int) < l.length := by omega
  simp only [go_sem, simprocAttr, f1, f2, r1, r2, w1, x0, x1, n0, n1, n2]
  have hne2 : hp ≠ id := at1.ne (by simp)
  simp only [go_sem, simprocAttr, f1, f2, r1, r2, rowAt_ne hne2]
  have n3 : ((l.length - 1 : Nat) : Int) ≤ l.length := by omega
  simp only [go_sem, simprocAttr, n1, n3, f1, f2, r1, r2, rowAt_ne hne2]
  -- the heap, one shorter
  have at2 := (at1.fresh hid2 (.row 0 false 2 [[.sc (.int .i64 (hg l 0).1), .sc (.int .i64 (hg l 0).2)]])).write 0 [.sc (.int .i64 (hg l (l.length - 1)).1), .sc (.int .i64 (hg l (l.length - 1)).2)] (by rw [pairs_len]; exact hpos)
  rw [Nat.add_zero, ← pairs_set] at at2
  have c2 := at2.acc.part rfl (l := 0) (k := l.length - 1) (Nat.zero_le _) (by rw [pairs_len, List.length_set]; omega)
  rw [Nat.add_zero, Nat.sub_zero, List.drop_zero, pairs_take] at c2
  have hne3 : hp ≠ id2 := fun e => by rw [e, hid2] at q1; cases q1
  have c3 := (c2.other (id := hp) (by simp) (.row 0 false 1 [[.sl id ver off (l.length - 1) 2]])).less (o2 := hp :: id2 :: others) (fun y hy => by simp at hy ⊢; rcases hy with h | h | h <;> simp [h])
  generalize hσ : (((σ.set id2 (.row 0 false 2 [[.sc (.int .i64 (hg l 0).1), .sc (.int .i64 (hg l 0).2)]])).set id (.row ver false 2 (xs.set off [.sc (.int .i64 (hg l (l.length - 1)).1), .sc (.int .i64 (hg l (l.length - 1)).2)]))).set hp (.row 0 false 1 [[.sl id ver off (l.length - 1) 2]])) = σ4 at *
  have g1 : σ4.get hp = some (.row 0 false 1 [[.sl id ver off (l.length - 1) 2]]) := by rw [← hσ]; simp
  have hne4 : id2 ≠ id := fun e => by rw [e] at hid2; have := at1.row; simp [Ab.rowAt, hid2] at this
  have g2 : σ4.get id2 = some (.row 0 false 2 [[.sc (.int .i64 (hg l 0).1), .sc (.int .i64 (hg l 0).2)]]) := by
    rw [← hσ, Store.get_set_ne _ _ (fun e => hne3 e.symm), Store.get_set_ne _ _ hne4, Store.get_set_self]
  have g3 : ∀ j ∈ others, σ4.get j = σ.get j := fun j hj => by
    rw [← hσ, Store.get_set_ne _ _ (fun e : j = hp => h0 (by rw [← e]; exact hj)), Store.get_set_ne _ _ (at1.ne (by simp [hj])), get_fresh hid2 (at1.alive j (by simp [hj]))]
  have hp0 : hp ∉ id2 :: others := by
    intro hm
    rcases List.mem_cons.1 hm with e | e
    · exact hne3 e
    · exact h0 e
  refine loop_rule (fun m fr σ2 => ∃ (i f : Nat) (l2 : List (Int × Int)), m = l2.length - i ∧ fr = [(0, .ptr hp 0 0 0), (5, .ptr id2 0 0 0), (7, .i i)] ∧ (i < l2.length ∨ i = 0) ∧ l2.length + 1 ≤ f + i ∧ l2.length < l.length ∧ HeapAt σ2 hp l2 (id2 :: others) ∧ (∀ j ∈ id2 :: others, σ2.get j = σ4.get j) ∧ siftDown f l2 i = popped l)
    (l.length - 1) ⟨0, l.length, (l.set 0 (hg l (l.length - 1))).take (l.length - 1), by simp, rfl, .inr rfl, by simp; omega, by simp; omega, ⟨hp0, _, g1, c3⟩, fun _ _ => rfl, rfl⟩ ?_
  rintro m fr σ2 ⟨i, f, l2, rfl, rfl, hi, hf, hl2, hh, q3, q4⟩
  simp only [go_sem, simprocAttr]
  refine good_out 4 (outL2 (heap_out hh) out_sc) (least_ok l2 i (by omega) (by omega)) rfl ?_
  simp only [go_sem, simprocAttr]
  obtain ⟨le1, le2⟩ := leastOf_le l2 i
  obtain ⟨f', rfl⟩ : ∃ f', f = f' + 1 := ⟨f - 1, by omega⟩
  have r5 := rowAt_get ((q3 id2 (by simp)).trans g2)
  by_cases h3 : leastOf l2 i = i
  · have h3' : ((leastOf l2 i : Nat) : Int) = i := by omega
    simp only [go_sem, simprocAttr, h3']
    unfold op52_51
    simp only [go_sem, simprocAttr, r5]
    unfold siftDown at q4
    rw [if_pos h3] at q4
    obtain ⟨_, v2, k1, k2⟩ := hh
    exact ⟨⟨h0, v2, by rw [← q4]; exact ⟨k1, k2.less (fun y hy => by simp at hy ⊢; rcases hy with h | h <;> simp [h])⟩⟩, fun j hj => by rw [q3 j (by simp [hj]), g3 j hj]⟩
  · have h3' : ¬ ((leastOf l2 i : Nat) : Int) = i := by omega
    simp only [go_sem, simprocAttr, h3']
    unfold op52_55
    have hkl := le2 h3
    have hil : i < l2.length := by omega
    obtain ⟨_, v2, k1, k2⟩ := hh
    obtain ⟨id3, ver3, off3, xs3, rfl, at3⟩ := k2.at (by rw [pairs_len]; omega)
    generalize hk : leastOf l2 i = kk at *
    have r3 := rowAt_get k1
    have r4 := at3.row
    have x3 := at3.get (hg_row hil)
    have x4 := at3.get (hg_row hkl)
    have n4 : (0 : Int) ≤ i := by omega
    have n5 : (0 : Int) ≤ kk := by omega
    have n6 : (i : Int) < l2.length := by omega
    have n7 : (kk : Int) < l2.length := by omega
    have hne5 : ¬ (off3 + i = off3 + kk) := by omega
    have c4 := at3.write i [.sc (.int .i64 (hg l2 kk).1), .sc (.int .i64 (hg l2 kk).2)] (by rw [pairs_len]; exact hil)
    have x5 : (xs3.set (off3 + i) [.sc (.int .i64 (hg l2 kk).1), .sc (.int .i64 (hg l2 kk).2)])[off3 + kk]? = some [.sc (.int .i64 (hg l2 kk).1), .sc (.int .i64 (hg l2 kk).2)] := by
      rw [List.getElem?_set_ne hne5]; exact x4
    have c5 := c4.write kk [.sc (.int .i64 (hg l2 i).1), .sc (.int .i64 (hg l2 i).2)] (by rw [List.length_set, pairs_len]; exact hkl)
    have hne6 : hp ≠ id3 := at3.ne (by simp)
    simp only [go_sem, simprocAttr, r3, r4, n4, n5, n6, n7, x3, x4, x5, rowAt_ne hne6]
    rw [← pairs_set, ← pairs_set] at c5
    simp only [Store.set_set] at c5
    refine back_of _ ?_ ⟨kk, f', hswap l2 i kk, rfl, rfl, .inl (by rw [hswap_len]; exact hkl), by rw [hswap_len]; omega, by rw [hswap_len]; omega, ⟨hp0, _, ?_, c5.acc⟩, fun j hj => ?_, ?_⟩
    · rw [hswap_len]; omega
    · rw [Store.get_set_ne _ _ hne6, k1]
      simp [hswap, pairs]
    · rw [Store.get_set_ne _ _ (at3.ne (by simp at hj ⊢; rcases hj with h | h <;> simp [h])), q3 j hj]
    · rw [← q4]
      conv => rhs; unfold siftDown
      rw [hk, if_neg h3]
end Go.Proofs

set_option linter.unusedVariables false
namespace Go.Proofs
/-! ### The heap's plain law -/
theorem hg_eq {l : List (Int × Int)} {i : Nat} (h : i < l.length) : hg l i = l[i] := by simp [hg, h]
theorem hswap_perm {l : List (Int × Int)} {i j : Nat} (hi : i < l.length) (hj : j < l.length) : (hswap l i j).Perm l := by
  unfold hswap
  rw [hg_eq hi, hg_eq hj]
  exact List.set_set_perm hi hj
theorem siftUp_perm : ∀ (f : Nat) (l : List (Int × Int)) (i : Nat), i < l.length → (siftUp f l i).Perm l
  | 0, l, i, h => List.Perm.refl _
  | f + 1, l, i, h => by
    unfold siftUp
    split
    · exact List.Perm.refl _
    · split
      · exact (siftUp_perm f _ _ (by rw [hswap_len]; omega)).trans (hswap_perm h (by omega))
      · exact List.Perm.refl _
theorem siftDown_perm : ∀ (f : Nat) (l : List (Int × Int)) (i : Nat), (siftDown f l i).Perm l
  | 0, l, i => List.Perm.refl _
  | f + 1, l, i => by
    unfold siftDown
    split
    · exact List.Perm.refl _
    · rename_i h
      obtain ⟨h1, h2⟩ := leastOf_le l i
      have h3 := h2 h
      exact (siftDown_perm f _ _).trans (hswap_perm (by omega) h3)
theorem popped_perm {l : List (Int × Int)} (h : l ≠ []) : (hg l 0 :: popped l).Perm l := by
  match l, h with
  | x :: r, _ =>
    have e0 : hg (x :: r) 0 = x := rfl
    rw [e0]
    refine List.Perm.cons x ?_
    refine (siftDown_perm _ _ _).trans ?_
    by_cases hr : r = []
    · subst hr; simp
    · have e1 : hg (x :: r) ((x :: r).length - 1) = r.getLast hr := by
        rw [hg_eq (by simp)]
        rw [List.getLast_eq_getElem]
        simp only [List.length_cons, Nat.add_sub_cancel]
        rw [List.getElem_cons]
        have : r.length ≠ 0 := fun e => hr (List.eq_nil_of_length_eq_zero e)
        simp [this]
      rw [e1]
      simp only [List.set_cons_zero, List.length_cons, Nat.add_sub_cancel]
      obtain ⟨k, hk⟩ : ∃ k, r.length = k + 1 := ⟨r.length - 1, by
        have : r.length ≠ 0 := fun e => hr (List.eq_nil_of_length_eq_zero e)
        omega⟩
      rw [hk, List.take_succ_cons]
      have e2 : r.take k = r.dropLast := by rw [List.dropLast_eq_take, hk]; rfl
      rw [e2]
      refine (List.perm_append_singleton _ _).symm.trans ?_
      rw [List.dropLast_concat_getLast hr]
theorem popped_len {l : List (Int × Int)} (h : l ≠ []) : (popped l).length + 1 = l.length := by
  have := (popped_perm h).length_eq
  simpa using this
theorem hg0_mem {l : List (Int × Int)} (h : l ≠ []) : hg l 0 ∈ l := (popped_perm h).mem_iff.1 (by simp)
theorem popped_mem {l : List (Int × Int)} {x : Int × Int} (hx : x ∈ popped l) : x ∈ l := by
  by_cases h : l = []
  · subst h
    simp [popped, siftDown] at hx
  · exact (popped_perm h).mem_iff.1 (by simp [hx])
end Go.Proofs

set_option linter.unusedSimpArgs false
set_option linter.unusedVariables false
namespace Go.Proofs
open Go.Ab

theorem HeapAt.other {σ : Store} {hp : Nat} {l : List (Int × Int)} {others : List Nat} (h : HeapAt σ hp l others) {j : Nat} (hj : j ∈ others) (o : Ab.Obj) : HeapAt (σ.set j o) hp l others := by
  obtain ⟨h0, v, h1, h2⟩ := h
  exact ⟨h0, v, by rw [Store.get_set_ne _ _ (fun e : hp = j => h0 (by rw [e]; exact hj))]; exact h1, h2.other (by simp [hj]) o⟩

def Gr.metric (g : Gr) (e : Int) : Int := match g.ls[(e / 2).toNat]? with
  | some l => l.m
  | none => 0
def hpush (h : List (Int × Int)) (k v : Int) : List (Int × Int) := siftUp (h.length + 1) (h ++ [(k, v)]) h.length
def relax1 (g : Gr) (down : List Bool) (far : Int) (out : List Int) (h : List (Int × Int)) (e : Int) : List (Int × Int) :=
  if isUp down e = true ∧ out.getD (g.ends e).2.1.toNat 0 = -1 then hpush h (far + g.metric e) (g.ends e).2.1 else h
def dij (g : Gr) (down : List Bool) : Nat → List (Int × Int) → List Int → List Int
  | 0, _, out => out
  | f + 1, h, out => if h = [] then out else
    if out.getD (hg h 0).2.toNat 0 = -1 then dij g down f ((g.out (hg h 0).2).foldl (relax1 g down (hg h 0).1 (out.set (hg h 0).2.toNat (hg h 0).1)) (popped h)) (out.set (hg h 0).2.toNat (hg h 0).1)
    else dij g down f (popped h) out
def unset (out : List Int) : Nat := out.count (-1)
def spfFuel (g : Gr) : Nat := g.n.toNat * (2 * g.ls.length + 2) + 2
def spfFrom (g : Gr) (down : List Bool) (node : Int) : List Int :=
  if g.check.2 = 0 ∧ 0 ≤ node ∧ node < g.n then dij g down (spfFuel g) (hpush [] 0 node) (List.replicate g.n.toNat (-1)) else []

theorem Gr.mem_out {g : Gr} {x e : Int} (h : e ∈ g.out x) : 0 ≤ e ∧ e < 2 * (g.ls.length : Int) ∧ (g.ends e).1 = x := by
  unfold Gr.out Gr.outN at h
  rw [List.mem_filterMap] at h
  obtain ⟨k, h1, h2⟩ := h
  rw [List.mem_range] at h1
  split at h2
  · rename_i h3
    injection h2 with h2
    subst h2
    exact ⟨by omega, by omega, h3⟩
  · cases h2
theorem Gr.out_len (g : Gr) (x : Int) : (g.out x).length ≤ 2 * g.ls.length := g.outN_len x _
theorem Gr.link_of {g : Gr} (hg : g.Ok) {l : Lk} (hl : l ∈ g.ls) : (0 ≤ l.a ∧ l.a < g.n) ∧ (0 ≤ l.b ∧ l.b < g.n) ∧ l.a ≠ l.b ∧ 1 ≤ l.m ∧ l.m ≤ 16777216 := by
  have := hg.2.2.2 l hl
  unfold Gr.linkErr at this
  split at this
  · omega
  · split at this
    · omega
    · omega
theorem Gr.ends_of {g : Gr} (hg : g.Ok) {e : Int} (h0 : 0 ≤ e) (h1 : e < 2 * (g.ls.length : Int)) : (0 ≤ (g.ends e).1 ∧ (g.ends e).1 < g.n) ∧ (0 ≤ (g.ends e).2.1 ∧ (g.ends e).2.1 < g.n) ∧ (g.ends e).2.2 = true ∧ (g.ends e).1 ≠ (g.ends e).2.1 := by
  have hlt : (e / 2).toNat < g.ls.length := by omega
  have hl := g.link_of hg (List.getElem_mem hlt)
  unfold Gr.ends
  rw [if_neg (by omega), List.getElem?_eq_getElem hlt]
  simp only
  split
  · exact ⟨hl.2.1, hl.1, rfl, fun h => hl.2.2.1 h.symm⟩
  · exact ⟨hl.1, hl.2.1, rfl, hl.2.2.1⟩
theorem Gr.metric_of {g : Gr} (hg : g.Ok) {e : Int} (h0 : 0 ≤ e) (h1 : e < 2 * (g.ls.length : Int)) : 1 ≤ g.metric e ∧ g.metric e ≤ 16777216 := by
  have hlt : (e / 2).toNat < g.ls.length := by omega
  have hl := g.link_of hg (List.getElem_mem hlt)
  unfold Gr.metric
  rw [List.getElem?_eq_getElem hlt]
  exact hl.2.2.2
theorem hpush_perm (h : List (Int × Int)) (k v : Int) : (hpush h k v).Perm (h ++ [(k, v)]) := siftUp_perm _ _ _ (by simp)
theorem hpush_len (h : List (Int × Int)) (k v : Int) : (hpush h k v).length = h.length + 1 := by simpa using (hpush_perm h k v).length_eq
theorem hpush_mem {h : List (Int × Int)} {k v : Int} {p : Int × Int} (hp : p ∈ hpush h k v) : p ∈ h ∨ p = (k, v) := by
  have := (hpush_perm h k v).mem_iff.1 hp
  simpa using this
theorem unset_le (out : List Int) : unset out ≤ out.length := List.count_le_length
theorem unset_set {out : List Int} {i : Nat} {x : Int} (hi : i < out.length) (h1 : out.getD i 0 = -1) (hx : 0 ≤ x) : unset (out.set i x) + 1 = unset out := by
  unfold unset
  rw [List.count_set hi]
  have e : out[i] = -1 := by simpa [hi] using h1
  have hpos : 0 < out.count (-1) := List.count_pos_iff.2 (e ▸ List.getElem_mem hi)
  have hx' : ¬ (x = -1) := by omega
  simp [e, hx']
  omega

theorem spf_from_ok (g : Gr) (down : List Bool) (node : Int) : PGood Try.prog 34 [g.val, .lst (bools down), .i node] (.lst (ints (spfFrom g down node))) := by
  refine pgood_of_out 2 (good_of_wp isF34 (Nat.le_refl _) ?_)
  unfold ac34
  simp only [go_sem, simprocAttr, Gr.val]
  intro gid hgid
  simp only [go_sem, simprocAttr]
  refine good_imm (right_ok g) rfl ?_
  simp only [go_sem, simprocAttr]
  by_cases hc : g.check.2 = 0
  case neg =>
    simp only [go_sem, simprocAttr, hc]
    have e : spfFrom g down node = [] := by unfold spfFrom; rw [if_neg (fun h => hc h.1)]
    rw [e]
    exact out_nils
  simp only [go_sem, simprocAttr, hc]
  refine good_imm (is_ok g.n (.lst (g.ls.map Lk.row)) node) rfl ?_
  simp only [go_sem, simprocAttr]
  refine .intro (fun hn => ?_) (fun hn => ?_)
  case refine_2 =>
    simp only [go_sem, simprocAttr]
    have e : spfFrom g down node = [] := by unfold spfFrom; rw [if_neg (fun h => hn h.2)]
    rw [e]
    exact out_nils
  obtain ⟨k1, k2, k3, k4⟩ := g.check_ok.1 hc
  have n1 : (0 : Int) ≤ g.n := by omega
  have n2 : g.n ≤ 9223372036854775807 := by omega
  have n3 : g.n.toNat * 8 ≤ 281474976710656 := by omega
  simp only [go_sem, simprocAttr, n1, n2, n3]
  intro oid hoid
  have hne1 : gid ≠ oid := fun e => by rw [← e] at hoid; simp at hoid
  have e1 : spfFrom g down node = dij g down (spfFuel g) (hpush [] 0 node) (List.replicate g.n.toNat (-1)) := by unfold spfFrom; rw [if_pos ⟨hc, hn⟩]
  have grow : ∀ o, ((Store.empty.set gid (.row 0 false 2 [[.sc (.int .i64 g.n), .lst (g.ls.map Lk.row)]])).set oid o).get gid = some (.row 0 false 2 [[.sc (.int .i64 g.n), .lst (g.ls.map Lk.row)]]) := fun o => by
    rw [Store.get_set_ne _ _ hne1, Store.get_set_self]
  simp only [go_sem, simprocAttr]
  refine loop_rule (fun m fr σ => ∃ (i : Nat) (out : List Int), i ≤ g.n.toNat ∧ m = g.n.toNat - i ∧ fr = [(1, .lst (bools down)), (2, .i node), (3, .ptr gid 0 0 0), (7, .sl oid 0 0 g.n.toNat 1), (31, .i g.n.toNat), (32, .i i)] ∧
    out = List.replicate i (-1) ++ List.replicate (g.n.toNat - i) 0 ∧ σ.get oid = some (.row 0 false 1 (ints out)) ∧ σ.get gid = some (.row 0 false 2 [[.sc (.int .i64 g.n), .lst (g.ls.map Lk.row)]])) g.n.toNat
    ⟨0, List.replicate g.n.toNat 0, by omega, by omega, rfl, by simp, by simp [ints_rep], grow _⟩ ?_
  rintro m fr σ ⟨i, out, h1, rfl, rfl, h2, h3, h4⟩
  have hlen : out.length = g.n.toNat := by rw [h2]; simp; omega
  simp only [go_sem, simprocAttr]
  refine .intro (fun h => ?_) (fun h => ?_)
  · have hi : i < out.length := by omega
    have x1 : (ints out)[i]? = some [.sc (.int .i64 out[i])] := ints_get (List.getElem?_eq_getElem hi)
    have n4 : (0 : Int) ≤ i := by omega
    have n5 : (i : Int) < g.n.toNat := h
    have w1 : IntKind.i64.wrap ((i : Int) + 1) = ((i + 1 : Nat) : Int) := by rw [wrap_id (by omega) (by omega)]; rfl
    simp only [go_sem, simprocAttr, n4, n5, rowAt_get h3, x1, w1]
    refine back_of _ ?_ ⟨i + 1, out.set i (-1), by omega, rfl, rfl, ?_, ?_, ?_⟩
    · omega
    · rw [h2, List.set_append_right _ _ (by simp), List.replicate_succ', List.length_replicate, Nat.sub_self]
      obtain ⟨k, hk⟩ : ∃ k, g.n.toNat - i = k + 1 := ⟨g.n.toNat - i - 1, by omega⟩
      rw [hk, show g.n.toNat - (i + 1) = k by omega, List.replicate_succ]
      simp
    · rw [Store.get_set_self, ints_set]
    · rw [Store.get_set_ne _ _ hne1, h4]
  · simp only [go_sem, simprocAttr]
    have e : i = g.n.toNat := by omega
    subst e
    rw [Nat.sub_self, List.replicate_zero, List.append_nil] at h2
    intro hp hhp
    simp only [go_sem, simprocAttr]
    have alive0 : Alive σ [oid, gid] := alive_cons h3 (alive_cons h4 alive_nil)
    have hh0 : HeapAt (σ.set hp (.row 0 false 1 [[.nils]])) hp [] [oid, gid] := ⟨alive0.not hhp, .nils, by simp, acc_nils (alive0.fresh hp _)⟩
    refine (push_ok _ hp [] [oid, gid] 0 node hh0 (by simp)).mono ?_
    rintro r σ1 ⟨hh1, fr1⟩
    simp only [go_sem, simprocAttr]
    have o1 := fr1 oid (by simp)
    rw [get_fresh hhp (by rw [h3]; rfl), h3] at o1
    have g1 := fr1 gid (by simp)
    rw [get_fresh hhp (by rw [h4]; rfl), h4] at g1
    have hU : unset out = g.n.toNat := by rw [h2]; simp [unset]
    have hok : g.Ok := ⟨k1, k2, k3, k4⟩
    refine loop_rule (fun m fr σ => ∃ (f : Nat) (h : List (Int × Int)) (out : List Int), m = unset out * (2 * g.ls.length + 2) + h.length ∧ fr = [(1, .lst (bools down)), (3, .ptr gid 0 0 0), (7, .sl oid 0 0 g.n.toNat 1), (9, .ptr hp 0 0 0)] ∧ out.length = g.n.toNat ∧
      HeapAt σ hp h [oid, gid] ∧ σ.get oid = some (.row 0 false 1 (ints out)) ∧ σ.get gid = some (.row 0 false 2 [[.sc (.int .i64 g.n), .lst (g.ls.map Lk.row)]]) ∧
      (∀ p ∈ h, (0 ≤ p.2 ∧ p.2 < g.n) ∧ 0 ≤ p.1 ∧ p.1 ≤ ((g.n.toNat - unset out : Nat) : Int) * 16777216) ∧ h.length ≤ (g.n.toNat - unset out) * (2 * g.ls.length) + 1 ∧
      unset out * (2 * g.ls.length + 2) + h.length < f ∧ dij g down f h out = spfFrom g down node) _
      ⟨spfFuel g, hpush [] 0 node, out, rfl, rfl, hlen, hh1, o1, g1, fun p hp => ?_, by rw [hpush_len]; simp, by rw [hpush_len, hU]; unfold spfFuel; simp, by rw [e1, h2]⟩ ?_
    · rcases hpush_mem hp with h | h
      · cases h
      · subst h; exact ⟨hn, by simp; omega⟩
    clear h h2 h3 h4 hlen hU hh0 hh1 fr1 o1 g1
    rintro m fr σ2 ⟨f, h, out, rfl, rfl, hlen, hh, o1, g1, hb, hcap, hf, hd⟩
    simp only [go_sem, simprocAttr]
    have hUle := unset_le out
    have hcap2 : h.length ≤ 40 * 240 + 1 := by
      refine Nat.le_trans hcap (Nat.add_le_add_right (Nat.mul_le_mul (by omega) (by omega)) 1)
    refine (pop_ok σ2 hp h [oid, gid] hh (by omega)).mono ?_
    rintro r σ3 hr
    obtain ⟨f', rfl⟩ : ∃ f', f = f' + 1 := ⟨f - 1, by omega⟩
    by_cases hnil : h = []
    · rw [if_pos hnil] at hr
      obtain ⟨rfl, hh3, fr3⟩ := hr
      simp only [go_sem, simprocAttr]
      have o3 := (fr3 oid (by simp)).trans o1
      unfold dij at hd
      rw [if_pos hnil] at hd
      rw [← hd]
      exact out_sl (rowAt_get o3) (by rw [ints_len]; omega) (by rw [List.drop_zero, ← hlen, ← ints_len, List.take_length]) (ints_sc _)
    · rw [if_neg hnil] at hr
      obtain ⟨rfl, hh3, fr3⟩ := hr
      have o3 := (fr3 oid (by simp)).trans o1
      have g3 := (fr3 gid (by simp)).trans g1
      obtain ⟨hb1, hb2, hb3⟩ := hb _ (hg0_mem hnil)
      have hplen := popped_len hnil
      unfold dij at hd
      rw [if_neg hnil] at hd
      generalize hfar : (hg h 0).1 = far at *
      generalize hat : (hg h 0).2 = at_ at *
      have hi : at_.toNat < out.length := by omega
      have x1 : (ints out)[at_.toNat]? = some [.sc (.int .i64 (out.getD at_.toNat 0))] := ints_get (by simp [hi])
      have m1 : at_ < (g.n.toNat : Int) := by omega
      simp only [go_sem, simprocAttr, hb1.1, m1, rowAt_get o3, x1]
      by_cases hset : out.getD at_.toNat 0 = -1
      · rw [if_pos hset] at hd
        simp only [go_sem, simprocAttr, hset, hb1.1, m1, rowAt_get o3, x1, rowAt_ne hne1, rowAt_get g3]
        refine good_imm (out_ok g at_ (by omega)) rfl ?_
        simp only [go_sem, simprocAttr]
        generalize hout : out.set at_.toNat far = out' at *
        have hset' : (ints out).set at_.toNat [AVal.sc (.int .i64 far)] = ints out' := by rw [← hout, ints_set]
        rw [hset']
        have hU' : unset out' + 1 = unset out := by rw [← hout]; exact unset_set hi hset hb2
        have hlen' : out'.length = g.n.toNat := by rw [← hout]; simpa using hlen
        have hol := g.out_len at_
        have hbound : ∀ p ∈ popped h, (0 ≤ p.2 ∧ p.2 < g.n) ∧ 0 ≤ p.1 ∧ p.1 ≤ ((g.n.toNat - unset out' : Nat) : Int) * 16777216 := fun p hp => by
          obtain ⟨a1, a2, a3⟩ := hb p (popped_mem hp)
          exact ⟨a1, a2, by omega⟩
        have hfb : far ≤ ((g.n.toNat - unset out' : Nat) : Int) * 16777216 - 16777216 := by omega
        refine loop_rule (fun m fr σ => ∃ (j : Nat) (h2 : List (Int × Int)), j ≤ (g.out at_).length ∧ m = (g.out at_).length - j ∧ fr = [(1, .lst (bools down)), (3, .ptr gid 0 0 0), (7, .sl oid 0 0 g.n.toNat 1), (9, .ptr hp 0 0 0), (10, .i far), (64, .lst (ints (g.out at_))), (65, .i (g.out at_).length), (66, .i j)] ∧
          h2 = ((g.out at_).take j).foldl (relax1 g down far out') (popped h) ∧
          HeapAt σ hp h2 [oid, gid] ∧ σ.get oid = some (.row 0 false 1 (ints out')) ∧ σ.get gid = some (.row 0 false 2 [[.sc (.int .i64 g.n), .lst (g.ls.map Lk.row)]]) ∧
          (∀ p ∈ h2, (0 ≤ p.2 ∧ p.2 < g.n) ∧ 0 ≤ p.1 ∧ p.1 ≤ ((g.n.toNat - unset out' : Nat) : Int) * 16777216) ∧ h2.length ≤ (popped h).length + j) _
          ⟨0, popped h, by omega, rfl, rfl, rfl, hh3.other (by simp) _, by simp, by rw [Store.get_set_ne _ _ hne1, g3], hbound, by omega⟩ ?_
        rintro m fr σ4 ⟨j, h2, hj, rfl, rfl, hh2, hh4, o4, g4, hb4, hl4⟩
        simp only [go_sem, simprocAttr]
        refine .intro (fun hjl => ?_) (fun hjl => ?_)
        · have hjl' : j < (g.out at_).length := by omega
          have hmem := List.getElem_mem hjl'
          have x2 : (ints (g.out at_))[j]? = some [.sc (.int .i64 (g.out at_)[j])] := ints_get (List.getElem?_eq_getElem hjl')
          have htake : ((g.out at_).take (j + 1)).foldl (relax1 g down far out') (popped h) = relax1 g down far out' h2 (g.out at_)[j] := by
            rw [List.take_succ_eq_append_getElem hjl', List.foldl_append, ← hh2]; rfl
          generalize (g.out at_)[j] = e at *
          obtain ⟨e1, e2, e3⟩ := g.mem_out hmem
          obtain ⟨v1, v2, v3, v4⟩ := g.ends_of hok e1 e2
          obtain ⟨v5, v6⟩ := g.metric_of hok e1 e2
          have n4 : (0 : Int) ≤ j := by omega
          have w4 : IntKind.i64.wrap ((j : Int) + 1) = ((j + 1 : Nat) : Int) := by rw [wrap_id (by omega) (by omega)]; rfl
          simp only [go_sem, simprocAttr, n4, x2, rowAt_get g4]
          refine good_imm (ends_ok g e (by omega)) rfl ?_
          simp only [go_sem, simprocAttr]
          refine good_imm (up_ok down e e1 (by omega)) rfl ?_
          simp only [go_sem, simprocAttr]
          have keep : ∀ (h3 : List (Int × Int)) (σ5 : Store), h3 = relax1 g down far out' h2 e → HeapAt σ5 hp h3 [oid, gid] → σ5.get oid = some (.row 0 false 1 (ints out')) → σ5.get gid = some (.row 0 false 2 [[.sc (.int .i64 g.n), .lst (g.ls.map Lk.row)]]) → True := fun _ _ _ _ _ _ => trivial
          cases hup : isUp down e with
          | false =>
            simp only [go_sem, simprocAttr, w4]
            refine back_of _ ?_ ⟨j + 1, h2, by omega, rfl, rfl, ?_, hh4, o4, g4, hb4, by omega⟩
            · omega
            · rw [htake]; unfold relax1; rw [if_neg (fun h => by rw [hup] at h; cases h.1)]
          | true =>
            generalize hto : (g.ends e).2.1 = to at *
            have hti : to.toNat < out'.length := by omega
            have x3 : (ints out')[to.toNat]? = some [.sc (.int .i64 (out'.getD to.toNat 0))] := ints_get (by simp [hti])
            have m3 : to < (g.n.toNat : Int) := by omega
            simp only [go_sem, simprocAttr, v2.1, m3, rowAt_get o4, x3]
            by_cases hso : out'.getD to.toNat 0 = -1
            · have hq : IntKind.i64.wrap (e.tdiv 2) = e / 2 := by
                rw [Int.tdiv_eq_ediv_of_nonneg (by omega)]
                exact wrap_id (by omega) (by omega)
              have hlt : (e / 2).toNat < g.ls.length := by omega
              have x4 : (g.ls.map Lk.row)[(e / 2).toNat]? = some [.sc (.int .i64 (g.ls[(e / 2).toNat]).a), .sc (.int .i64 (g.ls[(e / 2).toNat]).b), .sc (.int .i64 (g.metric e)), .sc (.int .i64 (g.ls[(e / 2).toNat]).c)] := by
                simp [hlt, Lk.row, Gr.metric]
              have n6 : (0 : Int) ≤ e / 2 := by omega
              have w5 : IntKind.i64.wrap (far + g.metric e) = far + g.metric e := by
                have : ((g.n.toNat - unset out' : Nat) : Int) ≤ 40 := by omega
                exact wrap_id (by omega) (by omega)
              simp only [go_sem, simprocAttr, hso, rowAt_get g4, hq, x4, n6, w5]
              refine (push_ok σ4 hp h2 [oid, gid] (far + g.metric e) to hh4 (by omega)).mono ?_
              rintro r σ5 ⟨hh5, fr5⟩
              simp only [go_sem, simprocAttr, w4]
              have hr1 : relax1 g down far out' h2 e = hpush h2 (far + g.metric e) to := by
                unfold relax1; rw [hto, if_pos ⟨hup, hso⟩]
              refine back_of _ ?_ ⟨j + 1, hpush h2 (far + g.metric e) to, by omega, rfl, rfl, ?_, hh5, (fr5 oid (by simp)).trans o4, (fr5 gid (by simp)).trans g4, fun p hp => ?_, by rw [hpush_len]; omega⟩
              · omega
              · rw [htake, hr1]
              · rcases hpush_mem hp with h | h
                · exact hb4 p h
                · subst h; exact ⟨v2, by omega, by omega⟩
            · simp only [go_sem, simprocAttr, hso, w4]
              refine back_of _ ?_ ⟨j + 1, h2, by omega, rfl, rfl, ?_, hh4, o4, g4, hb4, by omega⟩
              · omega
              · rw [htake]; unfold relax1; rw [hto, if_neg (fun h => hso h.2)]
        · simp only [go_sem, simprocAttr]
          have e : j = (g.out at_).length := by omega
          subst e
          rw [List.take_length] at hh2
          refine back_le _ ?_ [(1, .lst (bools down)), (3, .ptr gid 0 0 0), (7, .sl oid 0 0 g.n.toNat 1), (9, .ptr hp 0 0 0)] (by simp [Fr.get]) ⟨f', h2, out', rfl, rfl, hlen', hh4, o4, g4, hb4, ?_, ?_, by rw [hh2]; exact hd⟩
          · rw [← hU', Nat.add_mul]; omega
          · have e5 : g.n.toNat - unset out' = g.n.toNat - unset out + 1 := by omega
            rw [e5, Nat.add_mul]; omega
          · rw [← hU', Nat.add_mul] at hf; omega
      · rw [if_neg hset] at hd
        simp only [go_sem, simprocAttr, hset]
        refine back_le _ ?_ [(1, .lst (bools down)), (3, .ptr gid 0 0 0), (7, .sl oid 0 0 g.n.toNat 1), (9, .ptr hp 0 0 0)] (by simp [Fr.get]) ⟨f', popped h, out, rfl, rfl, hlen, hh3, o3, g3, fun p hp => hb p (popped_mem hp), by omega, by omega, hd⟩
        omega
end Go.Proofs

set_option linter.unusedSimpArgs false
set_option linter.unusedVariables false
namespace Go.Proofs
open Go.Ab

theorem node_ok (n : Int) (ls : AVal) (x : Int) : PGood Try.prog 19 [.agg [.i n, ls], .i x] (.b (decide (0 ≤ x ∧ x < n))) := by
  refine pgood_of_out 1 (good_of_wp isF19 (Nat.le_refl _) ?_)
  unfold ac19
  simp only [go_sem, simprocAttr]
  intro id hid
  simp only [go_sem, simprocAttr]
  refine .intro (fun h => ?_) (fun h => ?_)
  · simp only [go_sem, simprocAttr, h]
    exact out_sc
  · simp only [go_sem, simprocAttr, h]
    exact out_sc

theorem rends_ok (g : Gr) (e : Int) (he : e < 9223372036854775808) : PGood Try.prog 17 [g.val, .i e] (.tup [.i (g.ends e).1, .i (g.ends e).2.1, .b (g.ends e).2.2]) := by
  refine pgood_of_out 2 (good_of_wp isF17 (Nat.le_refl _) ?_)
  unfold ac17
  simp only [go_sem, simprocAttr, Gr.val]
  intro id hid
  simp only [go_sem, simprocAttr]
  refine .intro (fun h => ?_) (fun h => ?_)
  · simp only [go_sem, simprocAttr, h]
    have e1 : g.ends e = (0, 0, false) := by unfold Gr.ends; rw [if_pos (.inl h)]
    rw [e1]
    exact out_tup3 out_sc out_sc out_sc
  · have hq : IntKind.i64.wrap (e.tdiv 2) = e / 2 := by
      rw [Int.tdiv_eq_ediv_of_nonneg (by omega)]
      exact wrap_id (by omega) (by omega)
    have hr : e.tmod 2 = e % 2 := Int.tmod_eq_emod_of_nonneg (by omega)
    simp only [go_sem, simprocAttr, h, hq, hr]
    refine .intro (fun h2 => ?_) (fun h2 => ?_)
    · simp only [go_sem, simprocAttr, h, h2]
      have e1 : g.ends e = (0, 0, false) := by unfold Gr.ends; rw [if_pos (.inr h2)]
      rw [e1]
      exact out_tup3 out_sc out_sc out_sc
    · have hlt : (e / 2).toNat < g.ls.length := by omega
      have hx : (g.ls.map Lk.row)[(e / 2).toNat]? = some (g.ls[(e / 2).toNat]).row := by simp [hlt]
      have hn : (0 : Int) ≤ e / 2 := by omega
      have e1 : g.ends e = if e % 2 = 1 then ((g.ls[(e / 2).toNat]).b, (g.ls[(e / 2).toNat]).a, true) else ((g.ls[(e / 2).toNat]).a, (g.ls[(e / 2).toNat]).b, true) := by
        unfold Gr.ends; rw [if_neg (by omega), List.getElem?_eq_getElem hlt]
      generalize g.ls[(e / 2).toNat] = l at *
      simp only [go_sem, simprocAttr, h, h2, hq, hr, hx, hn, Lk.row]
      intro id2 hid2
      simp only [go_sem, simprocAttr, hr]
      refine .intro (fun h3 => ?_) (fun h3 => ?_)
      · simp only [go_sem, simprocAttr, h3, op17_27]
        rw [e1, if_pos h3]
        exact out_tup3 out_sc out_sc out_sc
      · simp only [go_sem, simprocAttr, h3, op17_31]
        rw [e1, if_neg h3]
        exact out_tup3 out_sc out_sc out_sc

theorem rout_ok (g : Gr) (x : Int) (hg : g.ls.length ≤ 1000000) : PGood Try.prog 33 [g.val, .i x] (.lst (ints (g.out x))) := by
  refine pgood_of_out 2 (good_of_wp isF33 (Nat.le_refl _) ?_)
  unfold ac33
  simp only [go_sem, simprocAttr, Gr.val]
  intro id hid
  have hw : IntKind.i64.wrap (2 * (g.ls.length : Int)) = 2 * (g.ls.length : Int) := wrap_id (by omega) (by omega)
  simp only [go_sem, simprocAttr]
  refine loop_rule (fun m fr σ => ∃ (i : Nat) (v : AVal), i ≤ 2 * g.ls.length ∧ m = 2 * g.ls.length - i ∧ fr = [(1, .i x), (2, .ptr id 0 0 0), (5, v), (6, .i i)] ∧
    σ.get id = some (.row 0 false 2 [[.sc (.int .i64 g.n), .lst (g.ls.map Lk.row)]]) ∧ Acc σ 1 v (ints (g.outN x i)) [id]) (2 * g.ls.length) ⟨0, .nils, by omega, rfl, rfl, by simp, acc_nils (alive_cons (Store.get_set_self _ _ _) alive_nil)⟩ ?_
  rintro m fr σ ⟨i, v, h1, rfl, rfl, h2, h3⟩
  simp only [go_sem, simprocAttr, rowAt_get h2, hw]
  refine .intro (fun h => ?_) (fun h => ?_)
  · simp only [go_sem, simprocAttr, rowAt_of h2]
    refine good_imm (rends_ok g i (by omega)) rfl ?_
    simp only [go_sem, simprocAttr]
    have hw2 : IntKind.i64.wrap ((i : Int) + 1) = ((i + 1 : Nat) : Int) := by rw [wrap_id (by omega) (by omega)]; rfl
    refine .intro (fun h4 => ?_) (fun h4 => ?_)
    · simp only [go_sem, simprocAttr]
      intro id2 hid2
      simp only [go_sem, simprocAttr]
      have hlen := g.outN_len x i
      refine acc_append (h3.fresh hid2 _) (by simp only [ints_len, List.length_cons, List.length_nil]; omega) (by simp only [ints_len, List.length_cons, List.length_nil]; omega) fun v' σ' k1 k2 => ?_
      simp only [go_sem, simprocAttr, hw2]
      refine back_of _ ?_ ⟨i + 1, v', by omega, rfl, rfl, ?_, ?_⟩
      · omega
      · rw [k2 id (by simp), get_fresh hid2 (by rw [h2]; rfl), h2]
      · rw [Gr.outN_succ, if_pos h4, ints_app]
        exact k1.less (by simp)
    · simp only [go_sem, simprocAttr, hw2]
      refine back_of _ ?_ ⟨i + 1, v, by omega, rfl, rfl, h2, ?_⟩
      · omega
      · rw [Gr.outN_succ, if_neg h4]; exact h3
  · simp only [go_sem, simprocAttr]
    have e : i = 2 * g.ls.length := by omega
    subst e
    exact acc_out h3 (ints_sc _)

theorem cut_ok (a b c : Int) : PGood Try.prog 14 [.i a, .i b, .i c] (.i (if a < b then b else if c < a then c else a)) := by
  refine pgood_of_out 1 (good_of_wp isF14 (Nat.le_refl _) ?_)
  unfold ac14
  simp only [go_sem, simprocAttr]
  by_cases h1 : a < b
  · simp only [go_sem, simprocAttr, h1]
    exact out_sc
  · simp only [go_sem, simprocAttr, h1]
    by_cases h2 : c < a
    · simp only [go_sem, simprocAttr, h2]
      exact out_sc
    · simp only [go_sem, simprocAttr, h2]
      exact out_sc

def isDown (down : List Bool) (i : Int) : Bool := decide (0 ≤ i) && (decide (i < down.length) && down.getD i.toNat false)
theorem isdown_ok (down : List Bool) (i : Int) : PGood Try.prog 18 [.lst (bools down), .i i] (.b (isDown down i)) := by
  refine pgood_of_out 1 (good_of_wp isF18 (Nat.le_refl _) ?_)
  unfold ac18
  simp only [go_sem, simprocAttr]
  by_cases h1 : 0 ≤ i
  · simp only [go_sem, simprocAttr, h1]
    by_cases h2 : i < down.length
    · have hlt : i.toNat < down.length := by omega
      have hx : (bools down)[i.toNat]? = some [.sc (.bool (down.getD i.toNat false))] := bools_get (by simp [hlt])
      simp only [go_sem, simprocAttr, h1, h2, hx]
      refine sub_out out_sc ?_
      simp [isDown, h1, h2]
    · simp only [go_sem, simprocAttr, h2]
      refine sub_out out_sc ?_
      simp [isDown, h1, h2]
  · simp only [go_sem, simprocAttr, h1]
    refine sub_out out_sc ?_
    simp [isDown, h1]

theorem spf_to_ok (g : Gr) (down : List Bool) (node : Int) : PGood Try.prog 25 [g.val, .lst (bools down), .i node] (.lst (ints (spfFrom g down node))) := by
  refine pgood_of_out 2 (good_of_wp isF25 (Nat.le_refl _) ?_)
  unfold ac25
  simp only [go_sem, simprocAttr, Gr.val]
  intro id hid
  simp only [go_sem, simprocAttr]
  refine good_imm (spf_from_ok g down node) rfl ?_
  simp only [go_sem, simprocAttr]
  exact out_lst

theorem rcheck_ok (g : Gr) : PGood Try.prog 15 [g.val] (.tup [.i g.check.1, .i g.check.2]) := by
  refine pgood_of_out 2 (good_of_wp isF15 (Nat.le_refl _) ?_)
  unfold ac15
  simp only [go_sem, simprocAttr, Gr.val]
  intro id hid
  simp only [go_sem, simprocAttr]
  refine .intro (fun h1 => ?_) (fun h1 => ?_)
  · simp only [go_sem, simprocAttr]
    have e : g.check = (-1, 6) := by unfold Gr.check; rw [if_pos (by omega)]
    rw [e]
    exact out_tup2 out_sc out_sc
  simp only [go_sem, simprocAttr]
  by_cases h2 : g.n < 1
  · simp only [go_sem, simprocAttr, h2]
    have e : g.check = (-1, 1) := by unfold Gr.check; rw [if_neg (by omega), if_pos (.inl h2)]
    rw [e]
    exact out_tup2 out_sc out_sc
  simp only [go_sem, simprocAttr, h2]
  refine .intro (fun h3 => ?_) (fun h3 => ?_)
  · simp only [go_sem, simprocAttr]
    have e : g.check = (-1, 1) := by unfold Gr.check; rw [if_neg (by omega), if_pos (.inr h3)]
    rw [e]
    exact out_tup2 out_sc out_sc
  simp only [go_sem, simprocAttr]
  have e0 : g.check = g.firstBad g.ls 0 := by unfold Gr.check; rw [if_neg (by omega), if_neg (by omega)]
  refine loop_rule (fun m fr σ => ∃ (i : Nat), i ≤ g.ls.length ∧ m = g.ls.length - i ∧ fr = [(1, .ptr id 0 0 0), (4, .i i)] ∧
    σ.get id = some (.row 0 false 2 [[.sc (.int .i64 g.n), .lst (g.ls.map Lk.row)]]) ∧ g.check = g.firstBad (g.ls.drop i) i) g.ls.length ⟨0, by omega, rfl, rfl, by simp, e0⟩ ?_
  rintro m fr σ ⟨i, h4, rfl, rfl, h5, h6⟩
  simp only [go_sem, simprocAttr, rowAt_get h5]
  refine .intro (fun h => ?_) (fun h => ?_)
  · have hlt : i < g.ls.length := by omega
    have hx : (g.ls.map Lk.row)[i]? = some (g.ls[i]).row := by simp [hlt]
    have hn : (0 : Int) ≤ i := by omega
    have hd : g.ls.drop i = g.ls[i] :: g.ls.drop (i + 1) := List.drop_eq_getElem_cons hlt
    rw [hd] at h6
    generalize g.ls[i] = l at *
    simp only [go_sem, simprocAttr, hx, hn, rowAt_get h5, Lk.row]
    intro id2 hid2
    have f1 := fun o => rowAt_fresh (o := o) hid2 (j := id) (ver := 0) (by rw [rowAt_get h5]; rfl)
    have hw2 : IntKind.i64.wrap ((i : Int) + 1) = ((i + 1 : Nat) : Int) := by rw [wrap_id (by omega) (by omega)]; rfl
    by_cases c1 : l.a < 0 ∨ g.n ≤ l.a ∨ l.b < 0 ∨ g.n ≤ l.b ∨ l.a = l.b
    · have e1 : g.linkErr l = 4 := by unfold Gr.linkErr; rw [if_pos (by omega)]
      have e2 : g.check = ((i : Int), 4) := by rw [h6]; simp [Gr.firstBad, e1]
      rw [e2]
      have fin : ∀ σ : Store, Out 2 σ (.tup [.sc (.int .i64 i), .sc (.int .i64 4)]) (.tup [.i (((i : Int), (4 : Int)).1), .i (((i : Int), (4 : Int)).2)]) := fun σ => out_tup2 out_sc out_sc
      by_cases d1 : l.a < 0
      · simp only [go_sem, simprocAttr, f1, rowAt_get h5, d1]
        exact fin _
      · by_cases d2 : g.n ≤ l.a
        · simp only [go_sem, simprocAttr, f1, rowAt_get h5, d1, d2]
          exact fin _
        · by_cases d3 : l.b < 0
          · simp only [go_sem, simprocAttr, f1, rowAt_get h5, d1, d2, d3]
            exact fin _
          · by_cases d4 : g.n ≤ l.b
            · simp only [go_sem, simprocAttr, f1, rowAt_get h5, d1, d2, d3, d4]
              exact fin _
            · have d5 : l.a = l.b := by omega
              simp only [go_sem, simprocAttr, f1, rowAt_get h5, d1, d2, d3, d4, d5]
              exact fin _
    · have d1 : ¬ l.a < 0 := by omega
      have d2 : ¬ g.n ≤ l.a := by omega
      have d3 : ¬ l.b < 0 := by omega
      have d4 : ¬ g.n ≤ l.b := by omega
      have d5 : ¬ l.a = l.b := by omega
      simp only [go_sem, simprocAttr, f1, rowAt_get h5, d1, d2, d3, d4, d5]
      by_cases c2 : l.m < 1 ∨ 16777216 < l.m ∨ l.c < 0 ∨ 62 < l.c
      · have e1 : g.linkErr l = 1 := by unfold Gr.linkErr; rw [if_neg (by omega), if_pos c2]
        have e2 : g.check = ((i : Int), 1) := by rw [h6]; simp [Gr.firstBad, e1]
        rw [e2]
        have fin : ∀ σ : Store, Out 2 σ (.tup [.sc (.int .i64 i), .sc (.int .i64 1)]) (.tup [.i (((i : Int), (1 : Int)).1), .i (((i : Int), (1 : Int)).2)]) := fun σ => out_tup2 out_sc out_sc
        by_cases d6 : l.m < 1
        · simp only [go_sem, simprocAttr, d6]
          exact fin _
        · by_cases d7 : 16777216 < l.m
          · simp only [go_sem, simprocAttr, d6, d7]
            exact fin _
          · by_cases d8 : l.c < 0
            · simp only [go_sem, simprocAttr, d6, d7, d8]
              exact fin _
            · have d9 : 62 < l.c := by omega
              simp only [go_sem, simprocAttr, d6, d7, d8, d9]
              exact fin _
      · have d6 : ¬ l.m < 1 := by omega
        have d7 : ¬ 16777216 < l.m := by omega
        have d8 : ¬ l.c < 0 := by omega
        have d9 : ¬ 62 < l.c := by omega
        have e1 : g.linkErr l = 0 := by unfold Gr.linkErr; rw [if_neg (by omega), if_neg c2]
        simp only [go_sem, simprocAttr, d6, d7, d8, d9, hw2]
        refine back_of _ ?_ ⟨i + 1, by omega, rfl, rfl, ?_, ?_⟩
        · omega
        · rw [get_fresh hid2 (by rw [h5]; rfl), h5]
        · rw [h6]; simp [Gr.firstBad, e1]
  · simp only [go_sem, simprocAttr]
    have e : i = g.ls.length := by omega
    subst e
    rw [h6, List.drop_length]
    exact out_tup2 out_sc out_sc
end Go.Proofs

set_option linter.unusedSimpArgs false
set_option linter.unusedVariables false
namespace Go.Proofs
open Go.Ab

/-! ### The reference's distances -/
def bfCond (g : Gr) (down : List Bool) (d : List Int) (k : Nat) : Prop :=
  0 ≤ d.getD (g.ends k).1.toNat 0 ∧ isDown down ((k : Int) / 2) = false ∧ (d.getD (g.ends k).2.1.toNat 0 < 0 ∨ d.getD (g.ends k).1.toNat 0 + g.metric k < d.getD (g.ends k).2.1.toNat 0)
instance (g : Gr) (down : List Bool) (d : List Int) (k : Nat) : Decidable (bfCond g down d k) := by unfold bfCond; infer_instance
def bfStep (g : Gr) (down : List Bool) (s : List Int × Bool) (k : Nat) : List Int × Bool :=
  if bfCond g down s.1 k then (s.1.set (g.ends k).2.1.toNat (s.1.getD (g.ends k).1.toNat 0 + g.metric k), true) else s
def bfSweep (g : Gr) (down : List Bool) (d : List Int) : List Int × Bool := (List.range (2 * g.ls.length)).foldl (bfStep g down) (d, false)
def bf (g : Gr) (down : List Bool) : Nat → List Int → List Int
  | 0, d => d
  | f + 1, d => if (bfSweep g down d).2 then bf g down f (bfSweep g down d).1 else (bfSweep g down d).1
def big : Int := 687865856
/-- How far a list of distances may still fall. -/
def pot (d : List Int) : Int := (d.map fun x => if x < 0 then big else x).sum
def refFrom (g : Gr) (down : List Bool) (node : Int) : List Int :=
  if g.check.2 = 0 ∧ 0 ≤ node ∧ node < g.n then bf g down (pot ((List.replicate g.n.toNat (-1)).set node.toNat 0)).toNat.succ ((List.replicate g.n.toNat (-1)).set node.toNat 0) else []

/-- Every distance is small. -/
def Small (d : List Int) : Prop := ∀ x ∈ d, x = -1 ∨ (0 ≤ x ∧ x ≤ ((d.length - (d.filter (· < 0)).length : Nat) : Int) * 16777216 - 16777216)

theorem pot_set {d : List Int} {i : Nat} {x : Int} (hi : i < d.length) : pot (d.set i x) = pot d - (if d[i] < 0 then big else d[i]) + (if x < 0 then big else x) := by
  unfold pot
  induction d generalizing i with
  | nil => simp at hi
  | cons y r ih =>
    cases i with
    | zero => simp; omega
    | succ i =>
      have := ih (i := i) (by simpa using hi)
      simp only [List.set_cons_succ, List.map_cons, List.sum_cons, List.getElem_cons_succ, this]
      omega
theorem pot_nonneg (d : List Int) : 0 ≤ pot d := by
  unfold pot
  induction d with
  | nil => simp
  | cons y r ih =>
    simp only [List.map_cons, List.sum_cons]
    have : 0 ≤ (if y < 0 then big else y) := by
      split
      · decide
      · omega
    omega
theorem neg_set {d : List Int} {i : Nat} {x : Int} (hi : i < d.length) (hx : 0 ≤ x) : ((d.set i x).filter (· < 0)).length + (if d[i] < 0 then 1 else 0) = (d.filter (· < 0)).length := by
  induction d generalizing i with
  | nil => simp at hi
  | cons y r ih =>
    cases i with
    | zero =>
      have hx' : ¬ x < 0 := by omega
      by_cases hy : y < 0 <;> simp [hx', hy]
    | succ i =>
      have := ih (i := i) (by simpa using hi)
      by_cases hy : y < 0 <;> simp [hy] <;> omega
theorem neg_le (d : List Int) : (d.filter (· < 0)).length ≤ d.length := List.length_filter_le _ _

theorem Small.step {d : List Int} (h : Small d) {i : Nat} {a m : Int} (hi : i < d.length) (ha : a ∈ d) (h0 : 0 ≤ a) (hm : 1 ≤ m) (hm2 : m ≤ 16777216) (hlt : d[i] < 0 ∨ a + m < d[i]) : Small (d.set i (a + m)) := by
  have e := neg_set (x := a + m) hi (by omega)
  have l1 := neg_le d
  have hsm := h a ha
  intro x hx
  rw [List.length_set]
  rcases List.mem_or_eq_of_mem_set hx with h1 | h1
  · rcases h x h1 with h2 | ⟨h2, h3⟩
    · exact .inl h2
    · refine .inr ⟨h2, ?_⟩
      split at e <;> omega
  · subst h1
    refine .inr ⟨by omega, ?_⟩
    rcases hlt with h2 | h2
    · rw [if_pos h2] at e
      omega
    · have h3 := h d[i] (List.getElem_mem hi)
      split at e <;> omega

theorem ref_from_ok (g : Gr) (down : List Bool) (node : Int) : PGood Try.prog 16 [g.val, .lst (bools down), .i node] (.lst (ints (refFrom g down node))) := by
  refine pgood_of_out 2 (good_of_wp isF16 (Nat.le_refl _) ?_)
  unfold ac16
  simp only [go_sem, simprocAttr, Gr.val]
  intro gid hgid
  simp only [go_sem, simprocAttr]
  refine good_imm (rcheck_ok g) rfl ?_
  simp only [go_sem, simprocAttr]
  by_cases hc : g.check.2 = 0
  case neg =>
    simp only [go_sem, simprocAttr, hc]
    have e : refFrom g down node = [] := by unfold refFrom; rw [if_neg (fun h => hc h.1)]
    rw [e]
    exact out_nils
  simp only [go_sem, simprocAttr, hc]
  refine good_imm (node_ok g.n (.lst (g.ls.map Lk.row)) node) rfl ?_
  simp only [go_sem, simprocAttr]
  refine .intro (fun hn => ?_) (fun hn => ?_)
  case refine_2 =>
    simp only [go_sem, simprocAttr]
    have e : refFrom g down node = [] := by unfold refFrom; rw [if_neg (fun h => hn h.2)]
    rw [e]
    exact out_nils
  obtain ⟨k1, k2, k3, k4⟩ := g.check_ok.1 hc
  have hok : g.Ok := ⟨k1, k2, k3, k4⟩
  have n1 : (0 : Int) ≤ g.n := by omega
  have n2 : g.n ≤ 9223372036854775807 := by omega
  have n3 : g.n.toNat * 8 ≤ 281474976710656 := by omega
  simp only [go_sem, simprocAttr, n1, n2, n3]
  intro oid hoid
  have hne1 : gid ≠ oid := fun e => by rw [← e] at hoid; simp at hoid
  have e1 : refFrom g down node = bf g down (pot ((List.replicate g.n.toNat (-1)).set node.toNat 0)).toNat.succ ((List.replicate g.n.toNat (-1)).set node.toNat 0) := by unfold refFrom; rw [if_pos ⟨hc, hn⟩]
  have grow : ∀ o, ((Store.empty.set gid (.row 0 false 2 [[.sc (.int .i64 g.n), .lst (g.ls.map Lk.row)]])).set oid o).get gid = some (.row 0 false 2 [[.sc (.int .i64 g.n), .lst (g.ls.map Lk.row)]]) := fun o => by
    rw [Store.get_set_ne _ _ hne1, Store.get_set_self]
  simp only [go_sem, simprocAttr]
  refine loop_rule (fun m fr σ => ∃ (i : Nat) (out : List Int), i ≤ g.n.toNat ∧ m = g.n.toNat - i ∧ fr = [(1, .lst (bools down)), (2, .i node), (3, .ptr gid 0 0 0), (9, .sl oid 0 0 g.n.toNat 1), (10, .i i)] ∧
    out = List.replicate i (-1) ++ List.replicate (g.n.toNat - i) 0 ∧ σ.get oid = some (.row 0 false 1 (ints out)) ∧ σ.get gid = some (.row 0 false 2 [[.sc (.int .i64 g.n), .lst (g.ls.map Lk.row)]])) g.n.toNat
    ⟨0, List.replicate g.n.toNat 0, by omega, by omega, rfl, by simp, by simp [ints_rep], grow _⟩ ?_
  rintro m fr σ ⟨i, out, h1, rfl, rfl, h2, h3, h4⟩
  have hlen : out.length = g.n.toNat := by rw [h2]; simp; omega
  simp only [go_sem, simprocAttr, rowAt_get h4]
  refine .intro (fun h => ?_) (fun h => ?_)
  · have hi : i < out.length := by omega
    have x1 : (ints out)[i]? = some [.sc (.int .i64 out[i])] := ints_get (List.getElem?_eq_getElem hi)
    have n4 : (0 : Int) ≤ i := by omega
    have n5 : (i : Int) < g.n.toNat := by omega
    have w1 : IntKind.i64.wrap ((i : Int) + 1) = ((i + 1 : Nat) : Int) := by rw [wrap_id (by omega) (by omega)]; rfl
    simp only [go_sem, simprocAttr, n4, n5, rowAt_get h3, x1, w1]
    refine back_of _ ?_ ⟨i + 1, out.set i (-1), by omega, rfl, rfl, ?_, ?_, ?_⟩
    · omega
    · rw [h2, List.set_append_right _ _ (by simp), List.replicate_succ', List.length_replicate, Nat.sub_self]
      obtain ⟨k, hk⟩ : ∃ k, g.n.toNat - i = k + 1 := ⟨g.n.toNat - i - 1, by omega⟩
      rw [hk, show g.n.toNat - (i + 1) = k by omega, List.replicate_succ]
      simp
    · rw [Store.get_set_self, ints_set]
    · rw [Store.get_set_ne _ _ hne1, h4]
  · simp only [go_sem, simprocAttr]
    have e : i = g.n.toNat := by omega
    subst e
    rw [Nat.sub_self, List.replicate_zero, List.append_nil] at h2
    have hi : node.toNat < out.length := by omega
    have x1 : (ints out)[node.toNat]? = some [.sc (.int .i64 out[node.toNat])] := ints_get (List.getElem?_eq_getElem hi)
    have n4 : (0 : Int) ≤ node := by omega
    have n5 : node < (g.n.toNat : Int) := by omega
    simp only [go_sem, simprocAttr, n4, n5, rowAt_get h3, x1]
    have hd0 : out.set node.toNat 0 = (List.replicate g.n.toNat (-1)).set node.toNat 0 := by rw [h2]
    have hrow0 : (ints out).set node.toNat [.sc (.int .i64 0)] = ints (out.set node.toNat 0) := (ints_set _ _ _).symm
    rw [hrow0]
    have hsm0 : Small (out.set node.toNat 0) := by
      intro x hx
      rcases List.mem_or_eq_of_mem_set hx with h5 | h5
      · rw [h2] at h5; exact .inl (List.mem_replicate.1 h5).2
      · subst h5
        refine .inr ⟨Int.le_refl _, ?_⟩
        have e5 := neg_set (x := 0) hi (Int.le_refl _)
        have l5 := neg_le out
        have e6 : out[node.toNat] = -1 := by
          have h7 : ∀ x ∈ out, x = -1 := fun x hx => by rw [h2] at hx; exact (List.mem_replicate.1 hx).2
          exact h7 _ (List.getElem_mem hi)
        rw [e6] at e5
        simp at e5 ⊢
        omega
    refine loop_rule (fun m fr σ => ∃ (f : Nat) (d : List Int) (more : Bool), m = (if more then (pot d).toNat + 1 else 0) ∧ fr = [(1, .lst (bools down)), (3, .ptr gid 0 0 0), (9, .sl oid 0 0 g.n.toNat 1), (11, .b more)] ∧ d.length = g.n.toNat ∧
      σ.get oid = some (.row 0 false 1 (ints d)) ∧ σ.get gid = some (.row 0 false 2 [[.sc (.int .i64 g.n), .lst (g.ls.map Lk.row)]]) ∧ Small d ∧
      (if more then (pot d).toNat < f ∧ bf g down f d = refFrom g down node else d = refFrom g down node)) _
      ⟨(pot (out.set node.toNat 0)).toNat.succ, out.set node.toNat 0, true, rfl, rfl, by simpa using hlen, by simp, by rw [Store.get_set_ne _ _ hne1, h4], hsm0, by rw [if_pos rfl]; exact ⟨Nat.lt_succ_self _, by rw [e1, ← hd0]⟩⟩ ?_
    clear h h2 h3 h4 hlen hi x1 hd0 hrow0 hsm0
    rintro m fr σ2 ⟨f, d, more, rfl, rfl, hlen, o1, g1, hsm, hfin⟩
    cases more with
    | false =>
      simp only [go_sem, simprocAttr]
      simp only [Bool.false_eq_true, if_false] at hfin
      rw [← hfin]
      exact out_sl (rowAt_get o1) (by rw [ints_len]; omega) (by rw [List.drop_zero, ← hlen, ← ints_len, List.take_length]) (ints_sc _)
    | true =>
      simp only [if_true] at hfin
      obtain ⟨hf, hbf⟩ := hfin
      obtain ⟨f', rfl⟩ : ∃ f', f = f' + 1 := ⟨f - 1, by omega⟩
      simp only [go_sem, simprocAttr]
      refine loop_rule (fun m fr σ => ∃ (k : Nat) (s : List Int × Bool), k ≤ 2 * g.ls.length ∧ m = 2 * g.ls.length - k ∧ fr = [(1, .lst (bools down)), (3, .ptr gid 0 0 0), (9, .sl oid 0 0 g.n.toNat 1), (11, .b s.2), (12, .i k)] ∧
        s = (List.range k).foldl (bfStep g down) (d, false) ∧ s.1.length = g.n.toNat ∧ σ.get oid = some (.row 0 false 1 (ints s.1)) ∧ σ.get gid = some (.row 0 false 2 [[.sc (.int .i64 g.n), .lst (g.ls.map Lk.row)]]) ∧ Small s.1 ∧
        pot s.1 ≤ pot d - (if s.2 then 1 else 0)) _ ⟨0, (d, false), by omega, rfl, rfl, rfl, hlen, o1, g1, hsm, by simp⟩ ?_
      rintro m fr σ3 ⟨k, s, hk, rfl, rfl, hs, hlen3, o3, g3, hsm3, hp3⟩
      have w2 : IntKind.i64.wrap (2 * (g.ls.length : Int)) = 2 * g.ls.length := wrap_id (by omega) (by omega)
      simp only [go_sem, simprocAttr, rowAt_get g3, w2]
      refine .intro (fun hkl => ?_) (fun hkl => ?_)
      · have hkl' : k < 2 * g.ls.length := by omega
        simp only [go_sem, simprocAttr, rowAt_get g3]
        refine good_imm (rends_ok g k (by omega)) rfl ?_
        simp only [go_sem, simprocAttr]
        unfold op16_61
        obtain ⟨v1, v2, v3, v4⟩ := g.ends_of hok (e := k) (by omega) (by omega)
        obtain ⟨v5, v6⟩ := g.metric_of hok (e := k) (by omega) (by omega)
        have hstep : (List.range (k + 1)).foldl (bfStep g down) (d, false) = bfStep g down s k := by rw [List.range_succ, List.foldl_append, ← hs]; rfl
        generalize ha : (g.ends k).1 = a at *
        generalize hb : (g.ends k).2.1 = b at *
        have hai : a.toNat < s.1.length := by omega
        have hbi : b.toNat < s.1.length := by omega
        have x1 : (ints s.1)[a.toNat]? = some [.sc (.int .i64 (s.1.getD a.toNat 0))] := ints_get (by simp [hai])
        have x2 : (ints s.1)[b.toNat]? = some [.sc (.int .i64 (s.1.getD b.toNat 0))] := ints_get (by simp [hbi])
        have ha' : s.1.getD a.toNat 0 ∈ s.1 := by
          have : s.1.getD a.toNat 0 = s.1[a.toNat] := by simp [hai]
          rw [this]; exact List.getElem_mem hai
        have ms := hsm3 _ ha'
        have lneg := neg_le s.1
        have hq : IntKind.i64.wrap ((k : Int).tdiv 2) = (k : Int) / 2 := by
          rw [Int.tdiv_eq_ediv_of_nonneg (by omega)]
          exact wrap_id (by omega) (by omega)
        have hlt : ((k : Int) / 2).toNat < g.ls.length := by omega
        have x4 : (g.ls.map Lk.row)[((k : Int) / 2).toNat]? = some [.sc (.int .i64 (g.ls[((k : Int) / 2).toNat]).a), .sc (.int .i64 (g.ls[((k : Int) / 2).toNat]).b), .sc (.int .i64 (g.metric k)), .sc (.int .i64 (g.ls[((k : Int) / 2).toNat]).c)] := by
          simp [hlt, Lk.row, Gr.metric]
        have n6 : (0 : Int) ≤ (k : Int) / 2 := by omega
        have m1 : a < (g.n.toNat : Int) := by omega
        have m2 : b < (g.n.toNat : Int) := by omega
        have w5 : IntKind.i64.wrap (s.1.getD a.toNat 0 + g.metric k) = s.1.getD a.toNat 0 + g.metric k := wrap_id (by omega) (by omega)
        have w4 : IntKind.i64.wrap ((k : Int) + 1) = ((k + 1 : Nat) : Int) := by rw [wrap_id (by omega) (by omega)]; rfl
        simp only [go_sem, simprocAttr, v1.1, m1, v2.1, m2, rowAt_get o3, x1, rowAt_get g3, hq, x4, n6, w5]
        have same : ¬ bfCond g down s.1 k → Back (fun m fr σ => ∃ (k : Nat) (s : List Int × Bool), k ≤ 2 * g.ls.length ∧ m = 2 * g.ls.length - k ∧ fr = [(1, .lst (bools down)), (3, .ptr gid 0 0 0), (9, .sl oid 0 0 g.n.toNat 1), (11, .b s.2), (12, .i k)] ∧
            s = (List.range k).foldl (bfStep g down) (d, false) ∧ s.1.length = g.n.toNat ∧ σ.get oid = some (.row 0 false 1 (ints s.1)) ∧ σ.get gid = some (.row 0 false 2 [[.sc (.int .i64 g.n), .lst (g.ls.map Lk.row)]]) ∧ Small s.1 ∧
            pot s.1 ≤ pot d - (if s.2 then 1 else 0)) (2 * g.ls.length - k) [(1, .lst (bools down)), (3, .ptr gid 0 0 0), (9, .sl oid 0 0 g.n.toNat 1), (11, .b s.2), (12, .i ((k + 1 : Nat) : Int))] σ3 := fun hne => by
          refine back_of (2 * g.ls.length - (k + 1)) (by omega) ⟨k + 1, s, by omega, rfl, rfl, ?_, hlen3, o3, g3, hsm3, hp3⟩
          rw [hstep]; unfold bfStep; rw [if_neg hne]
        by_cases q1 : 0 ≤ s.1.getD a.toNat 0
        · simp only [go_sem, simprocAttr, q1, hq]
          refine good_imm (isdown_ok down ((k : Int) / 2)) rfl ?_
          simp only [go_sem, simprocAttr]
          cases q2 : isDown down ((k : Int) / 2) with
          | true =>
            simp only [go_sem, simprocAttr, w4]
            exact same (fun h => by have := h.2.1; rw [q2] at this; cases this)
          | false =>
            simp only [go_sem, simprocAttr, v2.1, m2, rowAt_get o3, x2]
            have change : (s.1.getD b.toNat 0 < 0 ∨ s.1.getD a.toNat 0 + g.metric k < s.1.getD b.toNat 0) → Back (fun m fr σ => ∃ (k : Nat) (s : List Int × Bool), k ≤ 2 * g.ls.length ∧ m = 2 * g.ls.length - k ∧ fr = [(1, .lst (bools down)), (3, .ptr gid 0 0 0), (9, .sl oid 0 0 g.n.toNat 1), (11, .b s.2), (12, .i k)] ∧
                s = (List.range k).foldl (bfStep g down) (d, false) ∧ s.1.length = g.n.toNat ∧ σ.get oid = some (.row 0 false 1 (ints s.1)) ∧ σ.get gid = some (.row 0 false 2 [[.sc (.int .i64 g.n), .lst (g.ls.map Lk.row)]]) ∧ Small s.1 ∧
                pot s.1 ≤ pot d - (if s.2 then 1 else 0)) (2 * g.ls.length - k) [(1, .lst (bools down)), (3, .ptr gid 0 0 0), (9, .sl oid 0 0 g.n.toNat 1), (11, .b true), (12, .i ((k + 1 : Nat) : Int))] (σ3.set oid (.row 0 false 1 ((ints s.1).set b.toNat [.sc (.int .i64 (s.1.getD a.toNat 0 + g.metric k))]))) := fun hq3 => by
              have hbg : s.1.getD b.toNat 0 = s.1[b.toNat] := by simp [hbi]
              have hcond : bfCond g down s.1 k := by unfold bfCond; rw [ha, hb]; exact ⟨q1, q2, hq3⟩
              have hnew : bfStep g down s k = (s.1.set b.toNat (s.1.getD a.toNat 0 + g.metric k), true) := by unfold bfStep; rw [if_pos hcond, ha, hb]
              refine back_of (2 * g.ls.length - (k + 1)) (by omega) ⟨k + 1, (s.1.set b.toNat (s.1.getD a.toNat 0 + g.metric k), true), by omega, rfl, rfl, ?_, by simpa using hlen3, ?_, ?_, ?_, ?_⟩
              · rw [hstep, hnew]
              · rw [Store.get_set_self, ints_set]
              · rw [Store.get_set_ne _ _ hne1, g3]
              · exact hsm3.step hbi ha' q1 v5 v6 (by rw [← hbg]; exact hq3)
              · have hp4 := pot_set (x := s.1.getD a.toNat 0 + g.metric k) hbi
                rw [← hbg] at hp4
                have hn : ¬ (s.1.getD a.toNat 0 + g.metric k < 0) := by omega
                simp only [hn, if_false] at hp4
                simp only [if_true]
                have hbig : s.1.getD a.toNat 0 + g.metric k < big := by unfold big; omega
                rw [hp4]
                split <;> split at hp3 <;> omega
            by_cases q3 : s.1.getD b.toNat 0 < 0
            · simp only [go_sem, simprocAttr, q3, v2.1, m2, rowAt_get o3, x2, w4]
              exact change (.inl q3)
            · simp only [go_sem, simprocAttr, q3, v2.1, m2, rowAt_get o3, x2]
              by_cases q4 : s.1.getD a.toNat 0 + g.metric k < s.1.getD b.toNat 0
              · simp only [go_sem, simprocAttr, q4, v2.1, m2, rowAt_get o3, x2, w4]
                exact change (.inr q4)
              · simp only [go_sem, simprocAttr, q4, w4]
                exact same (fun h => by have := h.2.2; rw [ha, hb] at this; omega)
        · simp only [go_sem, simprocAttr, q1, w4]
          exact same (fun h => by have := h.1; rw [ha] at this; exact q1 this)
      · simp only [go_sem, simprocAttr]
        have e : k = 2 * g.ls.length := by omega
        subst e
        have hs' : s = bfSweep g down d := hs
        unfold bf at hbf
        rw [← hs'] at hbf
        refine back_le _ ?_ [(1, .lst (bools down)), (3, .ptr gid 0 0 0), (9, .sl oid 0 0 g.n.toNat 1), (11, .b s.2)] (by simp [Fr.get]) ⟨f', s.1, s.2, rfl, rfl, hlen3, o3, g3, hsm3, ?_⟩
        · have p1 := pot_nonneg s.1
          cases hm : s.2 <;> simp [hm] at hp3 ⊢
          omega
        · have p1 := pot_nonneg s.1
          cases hm : s.2 <;> simp [hm] at hp3 hbf ⊢
          · exact hbf
          · exact ⟨by omega, hbf⟩
end Go.Proofs

set_option linter.unusedVariables false
namespace Go.Proofs
/-! ### The heap's order -/
def HOrd (l : List (Int × Int)) : Prop := ∀ i, 0 < i → i < l.length → ¬ lt2 (hg l i) (hg l ((i - 1) / 2))
def UpInv (l : List (Int × Int)) (i : Nat) : Prop :=
  (∀ j, 0 < j → j < l.length → j ≠ i → ¬ lt2 (hg l j) (hg l ((j - 1) / 2))) ∧ (∀ c, 0 < c → c < l.length → (c - 1) / 2 = i → 0 < i → ¬ lt2 (hg l c) (hg l ((i - 1) / 2)))
def DownInv (l : List (Int × Int)) (i : Nat) : Prop :=
  (∀ j, 0 < j → j < l.length → (j - 1) / 2 ≠ i → ¬ lt2 (hg l j) (hg l ((j - 1) / 2))) ∧ (∀ c, 0 < c → c < l.length → (c - 1) / 2 = i → 0 < i → ¬ lt2 (hg l c) (hg l ((i - 1) / 2)))
theorem lt2_trans {p q r : Int × Int} (h : lt2 p q) (h' : lt2 q r) : lt2 p r := by
  rcases h with h | ⟨h1, h2⟩ <;> rcases h' with h3 | ⟨h3, h4⟩
  · exact .inl (by omega)
  · exact .inl (by omega)
  · exact .inl (by omega)
  · exact .inr ⟨by omega, by omega⟩
theorem lt2_asymm {p q : Int × Int} (h : lt2 p q) : ¬ lt2 q p := by
  rintro (h3 | ⟨h3, h4⟩) <;> rcases h with h | ⟨h1, h2⟩ <;> omega
theorem lt2_irrefl (p : Int × Int) : ¬ lt2 p p := fun h => lt2_asymm h h
theorem hg_swap {l : List (Int × Int)} {i j : Nat} (hi : i < l.length) (hj : j < l.length) (k : Nat) : hg (hswap l i j) k = if k = j then hg l i else if k = i then hg l j else hg l k := by
  unfold hswap hg
  simp only [List.getD_eq_getElem?_getD, List.getElem?_set, List.length_set]
  by_cases h1 : k = j
  · subst h1; simp [hj]
  · by_cases h2 : k = i
    · subst h2
      have : ¬ j = k := fun e => h1 e.symm
      simp [this, h1, hi]
    · have h3 : ¬ j = k := fun e => h1 e.symm
      have h4 : ¬ i = k := fun e => h2 e.symm
      simp [h1, h2, h3, h4]
theorem siftUp_ord : ∀ (f : Nat) (l : List (Int × Int)) (i : Nat), i < f → i < l.length → UpInv l i → HOrd (siftUp f l i)
  | 0, l, i, h, _, _ => by omega
  | f + 1, l, i, h, hi, hu => by
    unfold siftUp
    by_cases h0 : i = 0
    · rw [if_pos h0]
      subst h0
      exact fun j h1 h2 => hu.1 j h1 h2 (by omega)
    · rw [if_neg h0]
      by_cases h1 : lt2 (hg l i) (hg l ((i - 1) / 2))
      · rw [if_pos h1]
        have hp : (i - 1) / 2 < l.length := by omega
        refine siftUp_ord f _ _ (by omega) (by rw [hswap_len]; omega) ⟨fun j j1 j2 j3 => ?_, fun c c1 c2 c3 c4 => ?_⟩
        · rw [hswap_len] at j2
          rw [hg_swap hi hp, hg_swap hi hp, if_neg j3]
          by_cases e1 : j = i
          · subst e1
            rw [if_pos rfl, if_pos rfl]
            unfold lt2 at *; omega
          · rw [if_neg e1]
            have a1 := hu.1 j j1 j2 e1
            by_cases e2 : (j - 1) / 2 = (i - 1) / 2
            · rw [if_pos e2]
              rw [e2] at a1
              unfold lt2 at *; omega
            · rw [if_neg e2]
              by_cases e3 : (j - 1) / 2 = i
              · rw [if_pos e3]
                exact hu.2 j j1 j2 e3 (by omega)
              · rw [if_neg e3]
                exact a1
        · rw [hswap_len] at c2
          rw [hg_swap hi hp, hg_swap hi hp, if_neg (by omega : ¬ c = (i - 1) / 2), if_neg (by omega : ¬ ((i - 1) / 2 - 1) / 2 = (i - 1) / 2), if_neg (by omega : ¬ ((i - 1) / 2 - 1) / 2 = i)]
          have a1 := hu.1 ((i - 1) / 2) c4 hp (by omega)
          by_cases e1 : c = i
          · rw [if_pos e1]
            exact a1
          · rw [if_neg e1]
            have a2 := hu.1 c c1 c2 e1
            rw [c3] at a2
            unfold lt2 at *; omega
      · rw [if_neg h1]
        intro j j1 j2
        by_cases e : j = i
        · subst e; exact h1
        · exact hu.1 j j1 j2 e
theorem hg_app {l : List (Int × Int)} {p : Int × Int} {i : Nat} : hg (l ++ [p]) i = if i < l.length then hg l i else if i = l.length then p else (0, 0) := by
  unfold hg
  simp only [List.getD_eq_getElem?_getD, List.getElem?_append]
  by_cases h : i < l.length
  · simp [h]
  · by_cases h2 : i = l.length
    · subst h2; simp
    · simp [h, h2]
      rw [List.getElem?_eq_none (by simp; omega)]
      rfl
theorem hpush_ord {l : List (Int × Int)} (h : HOrd l) (k v : Int) : HOrd (hpush l k v) := by
  refine siftUp_ord _ _ _ (by omega) (by simp) ⟨fun j j1 j2 j3 => ?_, fun c c1 c2 c3 c4 => ?_⟩
  · simp at j2
    rw [hg_app, hg_app, if_pos (by omega), if_pos (by omega)]
    exact h j j1 (by omega)
  · simp at c2; omega
theorem leastOf_spec (l : List (Int × Int)) (i : Nat) : (leastOf l i = i ∨ leastOf l i = 2 * i + 1 ∨ leastOf l i = 2 * i + 2) ∧ (leastOf l i ≠ i → lt2 (hg l (leastOf l i)) (hg l i)) ∧
    (∀ c, (c = 2 * i + 1 ∨ c = 2 * i + 2) → c < l.length → ¬ lt2 (hg l c) (hg l (leastOf l i))) := by
  unfold leastOf better
  by_cases h1 : 2 * i + 1 < l.length ∧ lt2 (l.getD (2 * i + 1) (0, 0)) (l.getD i (0, 0))
  · simp only [if_pos h1]
    by_cases h2 : 2 * i + 2 < l.length ∧ lt2 (l.getD (2 * i + 2) (0, 0)) (l.getD (2 * i + 1) (0, 0))
    · simp only [if_pos h2]
      refine ⟨by first | omega | simp, fun _ => ?_, fun c hc hl => ?_⟩
      · exact lt2_trans h2.2 h1.2
      · have b := h2.2
        rcases hc with rfl | rfl
        · exact lt2_asymm b
        · exact lt2_irrefl _
    · simp only [if_neg h2]
      refine ⟨by first | omega | simp, fun _ => h1.2, fun c hc hl => ?_⟩
      rcases hc with rfl | rfl
      · exact lt2_irrefl _
      · exact fun h => h2 ⟨hl, h⟩
  · simp only [if_neg h1]
    by_cases h2 : 2 * i + 2 < l.length ∧ lt2 (l.getD (2 * i + 2) (0, 0)) (l.getD i (0, 0))
    · simp only [if_pos h2]
      refine ⟨by first | omega | simp, fun _ => h2.2, fun c hc hl => ?_⟩
      have b := h2.2
      rcases hc with rfl | rfl
      · have a : ¬ lt2 (l.getD (2 * i + 1) (0, 0)) (l.getD i (0, 0)) := fun h => h1 ⟨hl, h⟩
        exact fun h => a (lt2_trans h b)
      · exact lt2_irrefl _
    · simp only [if_neg h2]
      refine ⟨.inl trivial, fun h => absurd rfl h, fun c hc hl => ?_⟩
      rcases hc with rfl | rfl
      · exact fun h => h1 ⟨hl, h⟩
      · exact fun h => h2 ⟨hl, h⟩
theorem siftDown_ord : ∀ (f : Nat) (l : List (Int × Int)) (i : Nat), l.length < f + i → DownInv l i → HOrd (siftDown f l i)
  | 0, l, i, h, hd => fun j j1 j2 => hd.1 j j1 j2 (by have j2' : j < l.length := j2; omega)
  | f + 1, l, i, h, hd => by
    obtain ⟨s1, s2, s3⟩ := leastOf_spec l i
    obtain ⟨q1, q2⟩ := leastOf_le l i
    unfold siftDown
    by_cases h0 : leastOf l i = i
    · rw [if_pos h0]
      intro j j1 j2
      by_cases e : (j - 1) / 2 = i
      · have := s3 j (by omega) j2
        rw [h0] at this
        rw [e]; exact this
      · exact hd.1 j j1 j2 e
    · rw [if_neg h0]
      have hk := q2 h0
      have hlt := s2 h0
      generalize leastOf l i = k at *
      have hi : i < l.length := by omega
      have hpk : (k - 1) / 2 = i := by omega
      refine siftDown_ord f _ _ (by rw [hswap_len]; omega) ⟨fun j j1 j2 j3 => ?_, fun c c1 c2 c3 c4 => ?_⟩
      · rw [hswap_len] at j2
        rw [hg_swap hi hk, hg_swap hi hk, if_neg j3]
        by_cases e1 : j = k
        · subst e1
          rw [if_pos rfl, hpk, if_pos rfl]
          unfold lt2 at *; omega
        · rw [if_neg e1]
          by_cases e2 : j = i
          · subst e2
            rw [if_pos rfl, if_neg (by omega : ¬ (j - 1) / 2 = j)]
            exact hd.2 k (by omega) hk hpk j1
          · rw [if_neg e2]
            by_cases e3 : (j - 1) / 2 = i
            · rw [if_pos e3]
              exact s3 j (by omega) j2
            · rw [if_neg e3]
              exact hd.1 j j1 j2 e3
      · rw [hswap_len] at c2
        rw [hg_swap hi hk, hg_swap hi hk, if_neg (by omega : ¬ c = k), if_neg (by omega : ¬ c = i), if_neg (by omega : ¬ (k - 1) / 2 = k), hpk, if_pos rfl]
        have := hd.1 c c1 c2 (by omega)
        rw [c3] at this
        exact this
theorem popped_ord {l : List (Int × Int)} (h : HOrd l) : HOrd (popped l) := by
  by_cases hl : l = []
  · subst hl; intro i h1 h2; simp [popped, siftDown] at h2
  have hpos : 0 < l.length := List.length_pos_iff.2 hl
  have hlen : ((l.set 0 (hg l (l.length - 1))).take (l.length - 1)).length = l.length - 1 := by simp
  have hget : ∀ i, 0 < i → i < l.length - 1 → hg ((l.set 0 (hg l (l.length - 1))).take (l.length - 1)) i = hg l i := fun i h1 h2 => by
    unfold hg
    simp only [List.getD_eq_getElem?_getD, List.getElem?_take, if_pos h2, List.getElem?_set]
    rw [if_neg (by omega)]
  unfold popped
  refine siftDown_ord _ _ _ (by rw [hlen]; omega) ⟨fun j j1 j2 j3 => ?_, fun c c1 c2 c3 c4 => by omega⟩
  rw [hlen] at j2
  rw [hget j j1 j2, hget _ (by omega) (by omega)]
  exact h j j1 (by omega)
theorem root_min {l : List (Int × Int)} (h : HOrd l) : ∀ (i : Nat), i < l.length → ¬ lt2 (hg l i) (hg l 0) := by
  intro i
  induction i using Nat.strongRecOn with
  | _ i ih =>
    intro hi
    by_cases h0 : i = 0
    · subst h0; exact lt2_irrefl _
    · have a := h i (by omega) hi
      have b := ih ((i - 1) / 2) (by omega) (by omega)
      unfold lt2 at *; omega
theorem root_le {l : List (Int × Int)} (h : HOrd l) {p : Int × Int} (hp : p ∈ l) : (hg l 0).1 ≤ p.1 := by
  obtain ⟨i, hi, rfl⟩ := List.getElem_of_mem hp
  have := root_min h i hi
  rw [hg_eq hi] at this
  unfold lt2 at this; omega
end Go.Proofs

set_option linter.unusedVariables false
namespace Go.Proofs
/-! ### Distances -/
def Use (g : Gr) (down : List Bool) (k : Int) : Prop := 0 ≤ k ∧ k < 2 * (g.ls.length : Int) ∧ isUp down k = true
abbrev at0 (d : List Int) (v : Int) : Int := d.getD v.toNat 0
structure IsDist (g : Gr) (down : List Bool) (node : Int) (d : List Int) : Prop where
  len : d.length = g.n.toNat
  src : at0 d node = 0
  neg : ∀ v, 0 ≤ v → v < g.n → at0 d v = -1 ∨ 0 ≤ at0 d v
  closed : ∀ k, Use g down k → 0 ≤ at0 d (g.ends k).1 → 0 ≤ at0 d (g.ends k).2.1 ∧ at0 d (g.ends k).2.1 ≤ at0 d (g.ends k).1 + g.metric k
  reach : ∀ v, 0 ≤ v → v < g.n → 0 ≤ at0 d v → (v = node ∧ at0 d v = 0) ∨ ∃ k, Use g down k ∧ (g.ends k).2.1 = v ∧ 0 ≤ at0 d (g.ends k).1 ∧ at0 d v = at0 d (g.ends k).1 + g.metric k

theorem dist_le {g : Gr} (hg : g.Ok) {down : List Bool} {node : Int} {d d' : List Int} (h : IsDist g down node d) (h' : IsDist g down node d') :
    ∀ (N : Nat) (v : Int), 0 ≤ v → v < g.n → 0 ≤ at0 d' v → at0 d' v ≤ N → 0 ≤ at0 d v ∧ at0 d v ≤ at0 d' v := by
  intro N
  induction N using Nat.strongRecOn with
  | _ N ih =>
    intro v v0 v1 h0 hN
    rcases h'.reach v v0 v1 h0 with ⟨rfl, h2⟩ | ⟨k, hk, hb, ha, hd⟩
    · rw [h.src, h2]; exact ⟨Int.le_refl _, Int.le_refl _⟩
    · obtain ⟨e1, e2, e3, e4⟩ := g.ends_of hg hk.1 hk.2.1
      obtain ⟨m1, m2⟩ := g.metric_of hg hk.1 hk.2.1
      have := ih (at0 d' (g.ends k).1).toNat (by omega) (g.ends k).1 e1.1 e1.2 ha (by omega)
      have c := h.closed k hk this.1
      rw [hb] at c
      omega
theorem dist_uniq {g : Gr} (hg : g.Ok) {down : List Bool} {node : Int} {d d' : List Int} (h : IsDist g down node d) (h' : IsDist g down node d') : d = d' := by
  refine List.ext_getElem (h.len.trans h'.len.symm) fun i h1 h2 => ?_
  have hi : (i : Int) < g.n := by have := h.len; omega
  have e1 : at0 d i = d[i] := by simp [h1]
  have e2 : at0 d' i = d'[i] := by simp [h2]
  rw [← e1, ← e2]
  have a1 := h.neg i (by omega) hi
  have a2 := h'.neg i (by omega) hi
  by_cases p1 : 0 ≤ at0 d i
  · have b1 := dist_le hg h' h (at0 d i).toNat i (by omega) hi p1 (by omega)
    have b2 := dist_le hg h h' (at0 d' i).toNat i (by omega) hi b1.1 (by omega)
    omega
  · by_cases p2 : 0 ≤ at0 d' i
    · have b2 := dist_le hg h h' (at0 d' i).toNat i (by omega) hi p2 (by omega)
      omega
    · omega

theorem up_down (down : List Bool) (k : Int) (h : 0 ≤ k) : isUp down k = !isDown down (k / 2) := by
  unfold isUp isDown
  by_cases h1 : (down.length : Int) ≤ k / 2
  · have h2 : ¬ (k / 2 < down.length) := by omega
    simp [h1, h2]
  · have h2 : k / 2 < down.length := by omega
    have h3 : (0 : Int) ≤ k / 2 := by omega
    simp [h1, h2, h3]

/-! ### The reference's way -/
structure BfInv (g : Gr) (down : List Bool) (node : Int) (d : List Int) : Prop where
  len : d.length = g.n.toNat
  src : at0 d node = 0
  neg : ∀ v, 0 ≤ v → v < g.n → at0 d v = -1 ∨ 0 ≤ at0 d v
  small : Small d
  reach : ∀ v, 0 ≤ v → v < g.n → 0 ≤ at0 d v → (v = node ∧ at0 d v = 0) ∨ ∃ k, Use g down k ∧ (g.ends k).2.1 = v ∧ 0 ≤ at0 d (g.ends k).1 ∧ at0 d (g.ends k).1 + g.metric k ≤ at0 d v
theorem at0_set {d : List Int} {u v x : Int} (hu : 0 ≤ u) (hul : u.toNat < d.length) (hv : 0 ≤ v) : at0 (d.set u.toNat x) v = if v = u then x else at0 d v := by
  unfold at0
  simp only [List.getD_eq_getElem?_getD, List.getElem?_set]
  by_cases h : v = u
  · subst h; simp [hul]
  · have : ¬ u.toNat = v.toNat := by omega
    simp [h, this]
theorem bf_step {g : Gr} (hg : g.Ok) {down : List Bool} {node : Int} (hn : 0 ≤ node ∧ node < g.n) {d : List Int} (h : BfInv g down node d) {k : Nat} (hk : k < 2 * g.ls.length) (hc : bfCond g down d k) :
    BfInv g down node (d.set (g.ends k).2.1.toNat (at0 d (g.ends k).1 + g.metric k)) ∧ pot (d.set (g.ends k).2.1.toNat (at0 d (g.ends k).1 + g.metric k)) < pot d := by
  obtain ⟨e1, e2, e3, e4⟩ := g.ends_of hg (e := k) (by omega) (by omega)
  obtain ⟨m1, m2⟩ := g.metric_of hg (e := k) (by omega) (by omega)
  obtain ⟨c1, c2, c3⟩ := hc
  have hlen := h.len
  have hbl : (g.ends k).2.1.toNat < d.length := by omega
  have hal : (g.ends k).1.toNat < d.length := by omega
  have hma : at0 d (g.ends k).1 ∈ d := by
    have : at0 d (g.ends k).1 = d[(g.ends k).1.toNat] := by simp [hal]
    rw [this]; exact List.getElem_mem hal
  have hbe : at0 d (g.ends k).2.1 = d[(g.ends k).2.1.toNat] := by simp [hbl]
  have hsm := h.small _ hma
  have hneg := neg_le d
  have huse : Use g down k := ⟨by omega, by omega, by rw [up_down _ _ (by omega), c2]; rfl⟩
  generalize ha : (g.ends k).1 = a at *
  generalize hb : (g.ends k).2.1 = b at *
  have c1' : 0 ≤ at0 d a := c1
  have c3' : at0 d b < 0 ∨ at0 d a + g.metric k < at0 d b := c3
  have fall : ∀ v, 0 ≤ v → 0 ≤ at0 d v → 0 ≤ at0 (d.set b.toNat (at0 d a + g.metric k)) v ∧ at0 (d.set b.toNat (at0 d a + g.metric k)) v ≤ at0 d v := fun v v0 hv => by
    rw [at0_set e2.1 hbl v0]
    split
    · rename_i e; subst e; omega
    · exact ⟨hv, Int.le_refl _⟩
  refine ⟨⟨by simpa using h.len, ?_, fun v v0 v1 => ?_, ?_, fun v v0 v1 hv => ?_⟩, ?_⟩
  · rw [at0_set e2.1 hbl hn.1]
    split
    · rename_i e; subst e
      have := h.src; omega
    · exact h.src
  · rw [at0_set e2.1 hbl v0]
    split
    · exact .inr (by omega)
    · exact h.neg v v0 v1
  · exact h.small.step hbl hma c1' m1 m2 (by rw [← hbe]; exact c3')
  · by_cases hvb : v = b
    · refine .inr ⟨k, huse, hb.trans hvb.symm, ?_, ?_⟩
      · rw [ha]; exact (fall a e1.1 c1').1
      · rw [ha, at0_set e2.1 hbl v0, if_pos hvb, at0_set e2.1 hbl e1.1, if_neg (fun e => e4 e)]
        exact Int.le_refl _
    · have e5 : at0 (d.set b.toNat (at0 d a + g.metric k)) v = at0 d v := by rw [at0_set e2.1 hbl v0, if_neg hvb]
      rw [e5] at hv ⊢
      rcases h.reach v v0 v1 hv with h1 | ⟨j, j1, j2, j3, j4⟩
      · exact .inl h1
      · obtain ⟨f1, _⟩ := g.ends_of hg j1.1 j1.2.1
        have := fall _ f1.1 j3
        exact .inr ⟨j, j1, j2, this.1, by omega⟩
  · rw [pot_set hbl, ← hbe]
    have : ¬ (at0 d a + g.metric k < 0) := by omega
    rw [if_neg this]
    have hbig : at0 d a + g.metric k < big := by unfold big; have := hg.2.2.1; omega
    split <;> omega
theorem bf_sweep {g : Gr} (hg : g.Ok) {down : List Bool} {node : Int} (hn : 0 ≤ node ∧ node < g.n) {d : List Int} (h : BfInv g down node d) : ∀ (k : Nat), k ≤ 2 * g.ls.length →
    BfInv g down node ((List.range k).foldl (bfStep g down) (d, false)).1 ∧
    (((List.range k).foldl (bfStep g down) (d, false)).2 = true → pot ((List.range k).foldl (bfStep g down) (d, false)).1 < pot d) ∧
    (((List.range k).foldl (bfStep g down) (d, false)).2 = false → ((List.range k).foldl (bfStep g down) (d, false)).1 = d ∧ ∀ j, j < k → ¬ bfCond g down d j)
  | 0, _ => ⟨h, (fun e => by cases e), fun _ => ⟨rfl, fun j hj => by omega⟩⟩
  | k + 1, hk => by
    obtain ⟨i1, i2, i3⟩ := bf_sweep hg hn h k (by omega)
    have e : (List.range (k + 1)).foldl (bfStep g down) (d, false) = bfStep g down ((List.range k).foldl (bfStep g down) (d, false)) k := by rw [List.range_succ, List.foldl_append]; rfl
    rw [e]
    generalize (List.range k).foldl (bfStep g down) (d, false) = s at *
    unfold bfStep
    by_cases hc : bfCond g down s.1 k
    · rw [if_pos hc]
      obtain ⟨j1, j2⟩ := bf_step hg hn i1 (by omega) hc
      refine ⟨j1, fun _ => ?_, (fun h => by cases h)⟩
      show pot (s.1.set (g.ends k).2.1.toNat (at0 s.1 (g.ends k).1 + g.metric k)) < pot d
      cases hs : s.2 with
      | true => have := i2 hs; omega
      | false => rw [(i3 hs).1] at j2 ⊢; exact j2
    · rw [if_neg hc]
      refine ⟨i1, i2, fun hs => ⟨(i3 hs).1, fun j hj => ?_⟩⟩
      by_cases hjk : j = k
      · subst hjk; rw [← (i3 hs).1]; exact hc
      · exact (i3 hs).2 j (by omega)
theorem bf_dist {g : Gr} (hg : g.Ok) {down : List Bool} {node : Int} (hn : 0 ≤ node ∧ node < g.n) : ∀ (f : Nat) (d : List Int), (pot d).toNat < f → BfInv g down node d → IsDist g down node (bf g down f d) ∧ Small (bf g down f d)
  | 0, d, h, _ => by omega
  | f + 1, d, h, hd => by
    obtain ⟨i1, i2, i3⟩ := bf_sweep hg hn hd (2 * g.ls.length) (Nat.le_refl _)
    unfold bf
    cases hs : (bfSweep g down d).2 with
    | true =>
      rw [if_pos rfl]
      have p1 := pot_nonneg (bfSweep g down d).1
      have p2 := i2 hs
      refine bf_dist hg hn f _ ?_ i1
      unfold bfSweep at p1 ⊢
      omega
    | false =>
      simp only [Bool.false_eq_true, if_false]
      obtain ⟨e, hc⟩ := i3 hs
      have e' : (bfSweep g down d).1 = d := e
      rw [e']
      have closed : ∀ k, Use g down k → 0 ≤ at0 d (g.ends k).1 → 0 ≤ at0 d (g.ends k).2.1 ∧ at0 d (g.ends k).2.1 ≤ at0 d (g.ends k).1 + g.metric k := fun k hk h0 => by
        have := hc k.toNat (by have := hk.1; have := hk.2.1; omega)
        have ek : ((k.toNat : Nat) : Int) = k := Int.toNat_of_nonneg hk.1
        unfold bfCond at this
        rw [ek] at this
        have hdn : isDown down (k / 2) = false := by
          have := hk.2.2
          rw [up_down _ _ hk.1] at this
          simpa using this
        have h1 : ¬ (at0 d (g.ends k).2.1 < 0 ∨ at0 d (g.ends k).1 + g.metric k < at0 d (g.ends k).2.1) := fun hx => this ⟨h0, hdn, hx⟩
        omega
      refine ⟨⟨hd.len, hd.src, hd.neg, closed, fun v v0 v1 hv => ?_⟩, hd.small⟩
      rcases hd.reach v v0 v1 hv with h1 | ⟨k, k1, k2, k3, k4⟩
      · exact .inl h1
      · have := closed k k1 k3
        rw [k2] at this
        exact .inr ⟨k, k1, k2, k3, by omega⟩
theorem refFrom_spec {g : Gr} (hg : g.Ok) {down : List Bool} {node : Int} (hn : 0 ≤ node ∧ node < g.n) : IsDist g down node (refFrom g down node) ∧ Small (refFrom g down node) := by
  unfold refFrom
  rw [if_pos ⟨g.check_ok.2 hg, hn⟩]
  have hl : node.toNat < (List.replicate g.n.toNat (-1 : Int)).length := by simp; omega
  have get : ∀ v, 0 ≤ v → v < g.n → at0 ((List.replicate g.n.toNat (-1)).set node.toNat 0) v = if v = node then 0 else -1 := fun v v0 v1 => by
    rw [at0_set hn.1 hl v0]
    split
    · rfl
    · have : v.toNat < g.n.toNat := by omega
      simp [at0, List.getElem?_replicate, this]
  refine bf_dist hg hn _ _ (Nat.lt_succ_self _) ⟨by simp, ?_, fun v v0 v1 => ?_, ?_, fun v v0 v1 hv => ?_⟩
  · rw [get node hn.1 hn.2, if_pos rfl]
  · rw [get v v0 v1]
    split
    · exact .inr (Int.le_refl _)
    · exact .inl rfl
  · intro x hx
    rcases List.mem_or_eq_of_mem_set hx with h5 | h5
    · exact .inl (List.mem_replicate.1 h5).2
    · subst h5
      refine .inr ⟨Int.le_refl _, ?_⟩
      have e5 := neg_set (x := 0) hl (Int.le_refl _)
      have l5 := neg_le (List.replicate g.n.toNat (-1 : Int))
      simp at e5 ⊢
      omega
  · rw [get v v0 v1] at hv ⊢
    split at hv
    · rename_i e; exact .inl ⟨e, by rw [if_pos e]⟩
    · omega
theorem refFrom_dist {g : Gr} (hg : g.Ok) {down : List Bool} {node : Int} (hn : 0 ≤ node ∧ node < g.n) : IsDist g down node (refFrom g down node) := (refFrom_spec hg hn).1
theorem refFrom_mild {g : Gr} {down : List Bool} {node : Int} : ∀ x ∈ refFrom g down node, -1 ≤ x ∧ x ≤ 671088640 := by
  intro x hx
  by_cases h : g.check.2 = 0 ∧ 0 ≤ node ∧ node < g.n
  · have hg := g.check_ok.1 h.1
    obtain ⟨h1, h2⟩ := refFrom_spec (down := down) hg h.2
    have hl := h1.len
    have hn := hg.2.2.1
    have hneg := neg_le (refFrom g down node)
    rcases h2 x hx with h3 | h3
    · omega
    · omega
  · unfold refFrom at hx
    rw [if_neg h] at hx
    cases hx
theorem refFrom_nil {g : Gr} {down : List Bool} {node : Int} : refFrom g down node = [] ↔ ¬ (g.check.2 = 0 ∧ 0 ≤ node ∧ node < g.n) := by
  constructor
  · intro h h'
    have hg := g.check_ok.1 h'.1
    have hl := (refFrom_dist (down := down) hg h'.2).len
    rw [h] at hl
    simp at hl
    have := hg.2.1
    omega
  · intro h
    unfold refFrom
    rw [if_neg h]
end Go.Proofs

set_option linter.unusedVariables false
namespace Go.Proofs
/-! ### The heap's way -/
structure DjInv (g : Gr) (down : List Bool) (node : Int) (Q : Int → Prop) (h : List (Int × Int)) (out : List Int) : Prop where
  len : out.length = g.n.toNat
  ord : HOrd h
  neg : ∀ v, 0 ≤ v → v < g.n → at0 out v = -1 ∨ 0 ≤ at0 out v
  key0 : ∀ p ∈ h, 0 ≤ p.1 ∧ 0 ≤ p.2 ∧ p.2 < g.n
  src : at0 out node = 0 ∨ (at0 out node = -1 ∧ (0, node) ∈ h)
  mono : ∀ v, 0 ≤ v → v < g.n → 0 ≤ at0 out v → ∀ p ∈ h, at0 out v ≤ p.1
  edge : ∀ k, Use g down k → 0 ≤ at0 out (g.ends k).1 → (0 ≤ at0 out (g.ends k).2.1 ∧ at0 out (g.ends k).2.1 ≤ at0 out (g.ends k).1 + g.metric k) ∨ (at0 out (g.ends k).1 + g.metric k, (g.ends k).2.1) ∈ h ∨ Q k
  orig : ∀ p ∈ h, p = (0, node) ∨ ∃ k, Use g down k ∧ (g.ends k).2.1 = p.2 ∧ 0 ≤ at0 out (g.ends k).1 ∧ p.1 = at0 out (g.ends k).1 + g.metric k
  reach : ∀ v, 0 ≤ v → v < g.n → 0 ≤ at0 out v → (v = node ∧ at0 out v = 0) ∨ ∃ k, Use g down k ∧ (g.ends k).2.1 = v ∧ 0 ≤ at0 out (g.ends k).1 ∧ at0 out v = at0 out (g.ends k).1 + g.metric k

theorem Gr.out_mem {g : Gr} {k x : Int} (h0 : 0 ≤ k) (h1 : k < 2 * (g.ls.length : Int)) (h2 : (g.ends k).1 = x) : k ∈ g.out x := by
  unfold Gr.out Gr.outN
  rw [List.mem_filterMap]
  have e : ((k.toNat : Nat) : Int) = k := Int.toNat_of_nonneg h0
  exact ⟨k.toNat, List.mem_range.2 (by omega), by simp only [e]; rw [if_pos h2]⟩
theorem hpush_mem_iff {h : List (Int × Int)} {k v : Int} {p : Int × Int} : p ∈ hpush h k v ↔ p ∈ h ∨ p = (k, v) := by
  rw [(hpush_perm h k v).mem_iff]; simp
theorem mem_popped {h : List (Int × Int)} (hne : h ≠ []) {p : Int × Int} (hp : p ∈ h) : p = hg h 0 ∨ p ∈ popped h := by
  have := (popped_perm hne).mem_iff.2 hp
  simpa using this

theorem dj_relax {g : Gr} (hg : g.Ok) {down : List Bool} {node far at_ : Int} {out : List Int} (hfar : 0 ≤ far) (hat : at0 out at_ = far) (htop : ∀ v, 0 ≤ v → v < g.n → 0 ≤ at0 out v → at0 out v ≤ far) :
    ∀ (es : List Int) (h : List (Int × Int)), (∀ e ∈ es, 0 ≤ e ∧ e < 2 * (g.ls.length : Int) ∧ (g.ends e).1 = at_) → DjInv g down node (fun k => k ∈ es) h out → DjInv g down node (fun _ => False) (es.foldl (relax1 g down far out) h) out
  | [], h, _, hi => ⟨hi.len, hi.ord, hi.neg, hi.key0, hi.src, hi.mono, (fun k hk h0 => by
      rcases hi.edge k hk h0 with h1 | h1 | h1
      · exact .inl h1
      · exact .inr (.inl h1)
      · cases h1), hi.orig, hi.reach⟩
  | e :: r, h, hes, hi => by
    obtain ⟨e0, e1, e2⟩ := hes e (by simp)
    obtain ⟨v1, v2, v3, v4⟩ := g.ends_of hg e0 e1
    obtain ⟨m1, m2⟩ := g.metric_of hg e0 e1
    rw [List.foldl_cons]
    refine dj_relax hg hfar hat htop r _ (fun x hx => hes x (by simp [hx])) ?_
    unfold relax1
    by_cases hc : isUp down e = true ∧ out.getD (g.ends e).2.1.toNat 0 = -1
    · rw [if_pos hc]
      have huse : Use g down e := ⟨e0, e1, hc.1⟩
      refine ⟨hi.len, hpush_ord hi.ord _ _, hi.neg, fun p hp => ?_, ?_, fun v w0 w1 hv p hp => ?_, fun k hk h0 => ?_, fun p hp => ?_, hi.reach⟩
      · rcases hpush_mem hp with h1 | h1
        · exact hi.key0 p h1
        · subst h1; exact ⟨by show 0 ≤ far + g.metric e; omega, v2⟩
      · rcases hi.src with h1 | ⟨h1, h2⟩
        · exact .inl h1
        · exact .inr ⟨h1, hpush_mem_iff.2 (.inl h2)⟩
      · rcases hpush_mem hp with h1 | h1
        · exact hi.mono v w0 w1 hv p h1
        · subst h1
          have := htop v w0 w1 hv
          show at0 out v ≤ far + g.metric e
          omega
      · rcases hi.edge k hk h0 with h1 | h1 | h1
        · exact .inl h1
        · exact .inr (.inl (hpush_mem_iff.2 (.inl h1)))
        · rcases List.mem_cons.1 h1 with h2 | h2
          · subst h2
            refine .inr (.inl (hpush_mem_iff.2 (.inr ?_)))
            rw [e2, hat]
          · exact .inr (.inr h2)
      · rcases hpush_mem hp with h1 | h1
        · exact hi.orig p h1
        · subst h1
          exact .inr ⟨e, huse, rfl, by rw [e2, hat]; exact hfar, by rw [e2, hat]⟩
    · rw [if_neg hc]
      refine ⟨hi.len, hi.ord, hi.neg, hi.key0, hi.src, hi.mono, fun k hk h0 => ?_, hi.orig, hi.reach⟩
      rcases hi.edge k hk h0 with h1 | h1 | h1
      · exact .inl h1
      · exact .inr (.inl h1)
      · rcases List.mem_cons.1 h1 with h2 | h2
        · subst h2
          refine .inl ?_
          have h3 : ¬ (at0 out (g.ends k).2.1 = -1) := fun hx => hc ⟨hk.2.2, hx⟩
          have h4 := hi.neg _ v2.1 v2.2
          have h5 := htop _ v2.1 v2.2 (by omega)
          rw [e2, hat]
          omega
        · exact .inr (.inr h2)

theorem dj_skip {g : Gr} {down : List Bool} {node : Int} {h : List (Int × Int)} {out : List Int} (hne : h ≠ []) (hi : DjInv g down node (fun _ => False) h out) (hs : ¬ at0 out (hg h 0).2 = -1) : DjInv g down node (fun _ => False) (popped h) out := by
  have hm := hg0_mem hne
  obtain ⟨k1, k2, k3⟩ := hi.key0 _ hm
  have hs' := hi.neg _ k2 k3
  refine ⟨hi.len, popped_ord hi.ord, hi.neg, fun p hp => hi.key0 p (popped_mem hp), ?_, fun v w0 w1 hv p hp => hi.mono v w0 w1 hv p (popped_mem hp), fun k hk h0 => ?_, fun p hp => hi.orig p (popped_mem hp), hi.reach⟩
  · rcases hi.src with h1 | ⟨h1, h2⟩
    · exact .inl h1
    · rcases mem_popped hne h2 with h3 | h3
      · rw [← h3] at hs
        exact absurd h1 hs
      · exact .inr ⟨h1, h3⟩
  · rcases hi.edge k hk h0 with h1 | h1 | h1
    · exact .inl h1
    · rcases mem_popped hne h1 with h3 | h3
      · refine .inl ?_
        have e1 : (g.ends k).2.1 = (hg h 0).2 := congrArg Prod.snd h3
        have e2 : at0 out (g.ends k).1 + g.metric k = (hg h 0).1 := congrArg Prod.fst h3
        have := hi.mono _ k2 k3 (by omega) _ hm
        rw [e1, e2]
        omega
      · exact .inr (.inl h3)
    · exact h1.elim

theorem dj_take {g : Gr} (hg' : g.Ok) {down : List Bool} {node : Int} (hn : 0 ≤ node ∧ node < g.n) {h : List (Int × Int)} {out : List Int} (hne : h ≠ []) (hi : DjInv g down node (fun _ => False) h out) (hs : at0 out (hg h 0).2 = -1) :
    DjInv g down node (fun _ => False) ((g.out (hg h 0).2).foldl (relax1 g down (hg h 0).1 (out.set (hg h 0).2.toNat (hg h 0).1)) (popped h)) (out.set (hg h 0).2.toNat (hg h 0).1) := by
  have hm := hg0_mem hne
  obtain ⟨k1, k2, k3⟩ := hi.key0 _ hm
  have hmin : ∀ p ∈ h, (hg h 0).1 ≤ p.1 := fun p hp => root_le hi.ord hp
  have hmono0 : ∀ v, 0 ≤ v → v < g.n → 0 ≤ at0 out v → at0 out v ≤ (hg h 0).1 := fun v w0 w1 hv => hi.mono v w0 w1 hv _ hm
  have horig := hi.orig _ hm
  have hmp : ∀ p, p ∈ h → p = hg h 0 ∨ p ∈ popped h := fun p hp => mem_popped hne hp
  have hlen := hi.len
  have pairEq : hg h 0 = ((hg h 0).1, (hg h 0).2) := rfl
  generalize hfar : (hg h 0).1 = far at *
  generalize hat : (hg h 0).2 = at_ at *
  have hal : at_.toNat < out.length := by omega
  have get : ∀ v, 0 ≤ v → at0 (out.set at_.toNat far) v = if v = at_ then far else at0 out v := fun v w0 => at0_set k2 hal w0
  have same : ∀ v, 0 ≤ v → 0 ≤ at0 out v → at0 (out.set at_.toNat far) v = at0 out v := fun v w0 hv => by
    rw [get v w0]
    split
    · rename_i e; subst e; omega
    · rfl
  have htop : ∀ v, 0 ≤ v → v < g.n → 0 ≤ at0 (out.set at_.toNat far) v → at0 (out.set at_.toNat far) v ≤ far := fun v w0 w1 hv => by
    rw [get v w0] at hv ⊢
    split
    · exact Int.le_refl _
    · rename_i e; rw [if_neg e] at hv; exact hmono0 v w0 w1 hv
  refine dj_relax hg' k1 (by rw [get at_ k2, if_pos rfl]) htop _ _ (fun e he => ?_) ⟨by simpa using hlen, popped_ord hi.ord, fun v w0 w1 => ?_, fun p hp => hi.key0 p (popped_mem hp), ?_, fun v w0 w1 hv p hp => ?_, fun k hk h0 => ?_, fun p hp => ?_, fun v w0 w1 hv => ?_⟩
  · exact g.mem_out he
  · rw [get v w0]
    split
    · exact .inr k1
    · exact hi.neg v w0 w1
  · rw [get node hn.1]
    rcases hi.src with h1 | ⟨h1, h2⟩
    · refine .inl ?_
      split
      · rename_i e; subst e; omega
      · exact h1
    · by_cases e : node = at_
      · rw [if_pos e]
        have := hmin _ h2
        exact .inl (by simp at this; omega)
      · rw [if_neg e]
        rcases hmp _ h2 with h3 | h3
        · rw [pairEq] at h3
          exact absurd (congrArg Prod.snd h3) e
        · exact .inr ⟨h1, h3⟩
  · exact Int.le_trans (htop v w0 w1 hv) (hmin p (popped_mem hp))
  · obtain ⟨v1, v2, v3, v4⟩ := g.ends_of hg' hk.1 hk.2.1
    by_cases ea : (g.ends k).1 = at_
    · exact .inr (.inr (g.out_mem hk.1 hk.2.1 ea))
    · rw [get _ v1.1, if_neg ea] at h0 ⊢
      rcases hi.edge k hk h0 with h1 | h1 | h1
      · refine .inl ?_
        rw [same _ v2.1 h1.1]
        exact h1
      · rcases hmp _ h1 with h3 | h3
        · rw [pairEq] at h3
          have e1 : (g.ends k).2.1 = at_ := congrArg Prod.snd h3
          have e2 : at0 out (g.ends k).1 + g.metric k = far := congrArg Prod.fst h3
          refine .inl ?_
          rw [get _ v2.1, if_pos e1, e2]
          exact ⟨k1, Int.le_refl _⟩
        · exact .inr (.inl h3)
      · exact h1.elim
  · rcases hi.orig p (popped_mem hp) with h1 | ⟨k, q1, q2, q3, q4⟩
    · exact .inl h1
    · obtain ⟨v1, _⟩ := g.ends_of hg' q1.1 q1.2.1
      exact .inr ⟨k, q1, q2, by rw [same _ v1.1 q3]; exact q3, by rw [same _ v1.1 q3]; exact q4⟩
  · by_cases e : v = at_
    · rw [get v w0, if_pos e]
      rcases horig with h1 | ⟨k, q1, q2, q3, q4⟩
      · rw [pairEq] at h1
        exact .inl ⟨e.trans (congrArg Prod.snd h1), congrArg Prod.fst h1⟩
      · obtain ⟨v1, _⟩ := g.ends_of hg' q1.1 q1.2.1
        exact .inr ⟨k, q1, by rw [q2, e], by rw [same _ v1.1 q3]; exact q3, by rw [same _ v1.1 q3]; exact q4⟩
    · rw [get v w0, if_neg e] at hv ⊢
      rcases hi.reach v w0 w1 hv with h1 | ⟨k, q1, q2, q3, q4⟩
      · exact .inl h1
      · obtain ⟨v1, _⟩ := g.ends_of hg' q1.1 q1.2.1
        exact .inr ⟨k, q1, q2, by rw [same _ v1.1 q3]; exact q3, by rw [same _ v1.1 q3]; exact q4⟩

theorem dij_dist {g : Gr} (hok : g.Ok) {down : List Bool} {node : Int} (hn : 0 ≤ node ∧ node < g.n) : ∀ (f : Nat) (h : List (Int × Int)) (out : List Int), unset out * (2 * g.ls.length + 2) + h.length < f → DjInv g down node (fun _ => False) h out → IsDist g down node (dij g down f h out)
  | 0, h, out, hf, _ => by omega
  | f + 1, h, out, hf, hi => by
    unfold dij
    by_cases hne : h = []
    · rw [if_pos hne]
      subst hne
      refine ⟨hi.len, ?_, hi.neg, fun k hk h0 => ?_, hi.reach⟩
      · rcases hi.src with h1 | ⟨_, h2⟩
        · exact h1
        · cases h2
      · rcases hi.edge k hk h0 with h1 | h1 | h1
        · exact h1
        · cases h1
        · exact h1.elim
    · rw [if_neg hne]
      have hpl := popped_len hne
      by_cases hs : out.getD (hg h 0).2.toNat 0 = -1
      · rw [if_pos hs]
        obtain ⟨k1, k2, k3⟩ := hi.key0 _ (hg0_mem hne)
        have hlen := hi.len
        have hU := unset_set (x := (hg h 0).1) (i := (hg h 0).2.toNat) (by omega) hs k1
        have hlen2 : ∀ (es : List Int) (h' : List (Int × Int)), (es.foldl (relax1 g down (hg h 0).1 (out.set (hg h 0).2.toNat (hg h 0).1)) h').length ≤ h'.length + es.length := by
          intro es
          induction es with
          | nil => intro h'; simp
          | cons e r ih =>
            intro h'
            rw [List.foldl_cons]
            have := ih (relax1 g down (hg h 0).1 (out.set (hg h 0).2.toNat (hg h 0).1) h' e)
            have h2 : (relax1 g down (hg h 0).1 (out.set (hg h 0).2.toNat (hg h 0).1) h' e).length ≤ h'.length + 1 := by
              unfold relax1
              split
              · rw [hpush_len]; exact Nat.le_refl _
              · omega
            simp only [List.length_cons]
            omega
        have h3 := hlen2 (g.out (hg h 0).2) (popped h)
        have h4 := g.out_len (hg h 0).2
        refine dij_dist hok hn f _ _ ?_ (dj_take hok hn hne hi hs)
        rw [← hU, Nat.add_mul] at hf
        omega
      · rw [if_neg hs]
        exact dij_dist hok hn f _ _ (by omega) (dj_skip hne hi hs)
theorem spfFrom_dist {g : Gr} (hg : g.Ok) {down : List Bool} {node : Int} (hn : 0 ≤ node ∧ node < g.n) : IsDist g down node (spfFrom g down node) := by
  unfold spfFrom
  rw [if_pos ⟨g.check_ok.2 hg, hn⟩]
  have get : ∀ v, 0 ≤ v → v < g.n → at0 (List.replicate g.n.toNat (-1)) v = -1 := fun v v0 v1 => by
    have : v.toNat < g.n.toNat := by omega
    simp [at0, this]
  have hone : ∀ p, p ∈ hpush [] 0 node → p = (0, node) := fun p hp => by
    rcases hpush_mem hp with h1 | h1
    · cases h1
    · exact h1
  refine dij_dist hg hn _ _ _ ?_ ⟨by simp, hpush_ord (fun i h1 h2 => by simp at h2) _ _, fun v v0 v1 => .inl (get v v0 v1), fun p hp => ?_, .inr ⟨get node hn.1 hn.2, hpush_mem_iff.2 (.inr rfl)⟩, fun v v0 v1 hv => ?_, fun k hk h0 => ?_, fun p hp => .inl (hone p hp), fun v v0 v1 hv => ?_⟩
  · rw [hpush_len]
    unfold spfFuel unset
    simp
  · rw [hone p hp]; exact ⟨Int.le_refl _, hn⟩
  · rw [get v v0 v1] at hv; omega
  · obtain ⟨e1, _⟩ := g.ends_of hg hk.1 hk.2.1
    rw [get _ e1.1 e1.2] at h0; omega
  · rw [get v v0 v1] at hv; omega
/-- The heap's distances are the reference's. -/
theorem spf_eq_ref (g : Gr) (down : List Bool) (node : Int) : spfFrom g down node = refFrom g down node := by
  by_cases h : g.check.2 = 0 ∧ 0 ≤ node ∧ node < g.n
  · exact dist_uniq (g.check_ok.1 h.1) (spfFrom_dist (g.check_ok.1 h.1) h.2) (refFrom_dist (g.check_ok.1 h.1) h.2)
  · unfold spfFrom refFrom
    rw [if_neg h, if_neg h]
end Go.Proofs

set_option linter.unusedSimpArgs false
set_option linter.unusedVariables false
namespace Go.Proofs
open Go.Ab

/-! ### The next edges -/
def nextCond (g : Gr) (down : List Bool) (to : List Int) (node : Int) (e : Int) : Bool :=
  isUp down e && (decide (0 ≤ at0 to (g.ends e).2.1) && decide (at0 to node = at0 to (g.ends e).2.1 + g.metric e))
def nextOf (g : Gr) (down : List Bool) (to : List Int) (node : Int) : List Int :=
  if g.check.2 = 0 ∧ (to.length : Int) = g.n ∧ (0 ≤ node ∧ node < g.n) ∧ 0 < at0 to node then (g.out node).filter (nextCond g down to node) else []
def Mild (to : List Int) : Prop := ∀ x ∈ to, -1 ≤ x ∧ x ≤ 1000000000000

theorem spf_next_ok (g : Gr) (down : List Bool) (to : List Int) (node : Int) (hto : Mild to) : PGood Try.prog 27 [g.val, .lst (bools down), .lst (ints to), .i node] (.lst (ints (nextOf g down to node))) := by
  refine pgood_of_out 2 (good_of_wp isF27 (Nat.le_refl _) ?_)
  unfold ac27
  simp only [go_sem, simprocAttr, Gr.val]
  intro gid hgid
  have nil : ¬ (g.check.2 = 0 ∧ (to.length : Int) = g.n ∧ (0 ≤ node ∧ node < g.n) ∧ 0 < at0 to node) → ∀ σ : Store, Out 2 σ .nils (.lst (ints (nextOf g down to node))) := fun h σ => by
    unfold nextOf; rw [if_neg h]; exact out_nils
  simp only [go_sem, simprocAttr]
  refine good_imm (right_ok g) rfl ?_
  simp only [go_sem, simprocAttr]
  by_cases hc : g.check.2 = 0
  case neg =>
    simp only [go_sem, simprocAttr, hc]
    exact nil (fun h => hc h.1) _
  simp only [go_sem, simprocAttr, hc]
  by_cases hl : (to.length : Int) = g.n
  case neg =>
    simp only [go_sem, simprocAttr, hl]
    exact nil (fun h => hl h.2.1) _
  simp only [go_sem, simprocAttr, hl]
  refine good_imm (is_ok g.n (.lst (g.ls.map Lk.row)) node) rfl ?_
  simp only [go_sem, simprocAttr]
  by_cases hn : 0 ≤ node ∧ node < g.n
  case neg =>
    simp only [go_sem, simprocAttr, hn]
    exact nil (fun h => hn h.2.2.1) _
  have hni : node.toNat < to.length := by omega
  have x1 : (ints to)[node.toNat]? = some [.sc (.int .i64 (at0 to node))] := ints_get (by simp [hni])
  simp only [go_sem, simprocAttr, hn, x1]
  by_cases hp : at0 to node ≤ 0
  · simp only [go_sem, simprocAttr, hp]
    exact nil (fun h => by omega) _
  obtain ⟨k1, k2, k3, k4⟩ := g.check_ok.1 hc
  have hok : g.Ok := ⟨k1, k2, k3, k4⟩
  simp only [go_sem, simprocAttr, hp]
  refine good_imm (out_ok g node (by omega)) rfl ?_
  simp only [go_sem, simprocAttr]
  have fin : nextOf g down to node = (g.out node).filter (nextCond g down to node) := by unfold nextOf; rw [if_pos ⟨hc, hl, hn, by omega⟩]
  have hol := g.out_len node
  have gal : ∀ (o : Ab.Obj), Alive (Store.empty.set gid o) [gid] := fun o => alive_cons (Store.get_set_self _ _ _) alive_nil
  refine loop_rule (fun m fr σ => ∃ (j : Nat) (v : AVal), j ≤ (g.out node).length ∧ m = (g.out node).length - j ∧ fr = [(1, .lst (bools down)), (2, .lst (ints to)), (3, .i node), (4, .ptr gid 0 0 0), (9, v), (40, .lst (ints (g.out node))), (41, .i (g.out node).length), (42, .i j)] ∧
    σ.get gid = some (.row 0 false 2 [[.sc (.int .i64 g.n), .lst (g.ls.map Lk.row)]]) ∧ Acc σ 1 v (ints (((g.out node).take j).filter (nextCond g down to node))) [gid]) _
    ⟨0, .nils, by omega, rfl, rfl, by simp, acc_nils (gal _)⟩ ?_
  rintro m fr σ ⟨j, v, hj, rfl, rfl, g1, acc⟩
  simp only [go_sem, simprocAttr]
  refine .intro (fun hjl => ?_) (fun hjl => ?_)
  · have hjl' : j < (g.out node).length := by omega
    have hmem := List.getElem_mem hjl'
    have x2 : (ints (g.out node))[j]? = some [.sc (.int .i64 (g.out node)[j])] := ints_get (List.getElem?_eq_getElem hjl')
    have htake : ((g.out node).take (j + 1)).filter (nextCond g down to node) = ((g.out node).take j).filter (nextCond g down to node) ++ (if nextCond g down to node (g.out node)[j] then [(g.out node)[j]] else []) := by
      rw [List.take_succ_eq_append_getElem hjl', List.filter_append]
      congr 1
      simp [List.filter_cons]
    generalize (g.out node)[j] = e at *
    obtain ⟨e1, e2, e3⟩ := g.mem_out hmem
    obtain ⟨v1, v2, v3, v4⟩ := g.ends_of hok e1 e2
    obtain ⟨v5, v6⟩ := g.metric_of hok e1 e2
    have n4 : (0 : Int) ≤ j := by omega
    have w4 : IntKind.i64.wrap ((j : Int) + 1) = ((j + 1 : Nat) : Int) := by rw [wrap_id (by omega) (by omega)]; rfl
    simp only [go_sem, simprocAttr, n4, x2, rowAt_get g1]
    refine good_imm (ends_ok g e (by omega)) rfl ?_
    simp only [go_sem, simprocAttr]
    unfold op27_53
    simp only [go_sem, simprocAttr]
    refine goodD_imm (up_ok down e e1 (by omega)) rfl ?_
    have same : nextCond g down to node e = false → Back (fun m fr σ => ∃ (j : Nat) (v : AVal), j ≤ (g.out node).length ∧ m = (g.out node).length - j ∧ fr = [(1, .lst (bools down)), (2, .lst (ints to)), (3, .i node), (4, .ptr gid 0 0 0), (9, v), (40, .lst (ints (g.out node))), (41, .i (g.out node).length), (42, .i j)] ∧
        σ.get gid = some (.row 0 false 2 [[.sc (.int .i64 g.n), .lst (g.ls.map Lk.row)]]) ∧ Acc σ 1 v (ints (((g.out node).take j).filter (nextCond g down to node))) [gid]) ((g.out node).length - j)
        [(1, .lst (bools down)), (2, .lst (ints to)), (3, .i node), (4, .ptr gid 0 0 0), (9, v), (40, .lst (ints (g.out node))), (41, .i (g.out node).length), (42, .i ((j + 1 : Nat) : Int))] σ := fun hne => by
      refine back_of ((g.out node).length - (j + 1)) (by omega) ⟨j + 1, v, by omega, rfl, rfl, g1, ?_⟩
      rw [htake, hne]
      simpa using acc
    have hq : IntKind.i64.wrap (e.tdiv 2) = e / 2 := by
      rw [Int.tdiv_eq_ediv_of_nonneg (by omega)]
      exact wrap_id (by omega) (by omega)
    have hlt : (e / 2).toNat < g.ls.length := by omega
    have x4 : (g.ls.map Lk.row)[(e / 2).toNat]? = some [.sc (.int .i64 (g.ls[(e / 2).toNat]).a), .sc (.int .i64 (g.ls[(e / 2).toNat]).b), .sc (.int .i64 (g.metric e)), .sc (.int .i64 (g.ls[(e / 2).toNat]).c)] := by
      simp [hlt, Lk.row, Gr.metric]
    have n6 : (0 : Int) ≤ e / 2 := by omega
    have cond : nextCond g down to node e = (isUp down e && (decide (0 ≤ at0 to (g.ends e).2.1) && decide (at0 to node = at0 to (g.ends e).2.1 + g.metric e))) := rfl
    generalize hto' : (g.ends e).2.1 = b at *
    have hbi : b.toNat < to.length := by omega
    have x3 : (ints to)[b.toNat]? = some [.sc (.int .i64 (at0 to b))] := ints_get (by simp [hbi])
    have mb : -1 ≤ at0 to b ∧ at0 to b ≤ 1000000000000 := hto _ (by simp [hbi])
    have mn : -1 ≤ at0 to node ∧ at0 to node ≤ 1000000000000 := hto _ (by simp [hni])
    have w5 : IntKind.i64.wrap (at0 to node - g.metric e) = at0 to node - g.metric e := wrap_id (by omega) (by omega)
    have hn1 := hn.1
    have hnl : node < (to.length : Int) := by omega
    have hbl : b < (to.length : Int) := by omega
    simp only [go_sem, simprocAttr]
    cases q1 : isUp down e with
    | false =>
      simp only [go_sem, simprocAttr, w4]
      exact same (by rw [cond, q1]; rfl)
    | true =>
      simp only [go_sem, simprocAttr, v2.1, x3]
      by_cases q2 : 0 ≤ at0 to b
      · simp only [go_sem, simprocAttr, q2, hn1, x1, rowAt_get g1, hq, n6, x4, w5, v2.1, x3]
        by_cases q3 : at0 to node - g.metric e = at0 to b
        · simp only [go_sem, simprocAttr, q3]
          have ct : nextCond g down to node e = true := by
            have this : at0 to node = at0 to b + g.metric e := by omega
            rw [cond, q1, decide_eq_true q2, decide_eq_true this]; rfl
          intro id2 hid2
          simp only [go_sem, simprocAttr]
          have hlenf := List.length_filter_le (nextCond g down to node) ((g.out node).take j)
          have hlent : ((g.out node).take j).length ≤ j := by simp; omega
          refine acc_append (acc.fresh hid2 _) (by simp only [ints_len, List.length_cons, List.length_nil]; omega) (by simp only [ints_len, List.length_cons, List.length_nil]; omega) fun v' σ' k1 k2 => ?_
          simp only [go_sem, simprocAttr, w4]
          refine back_of _ ?_ ⟨j + 1, v', by omega, rfl, rfl, ?_, ?_⟩
          · omega
          · rw [k2 gid (by simp), get_fresh hid2 (by rw [g1]; rfl), g1]
          · rw [htake, ct, if_pos rfl, ints_app]
            exact k1.less (by simp)
        · simp only [go_sem, simprocAttr, q3, w4]
          refine same ?_
          have this : ¬ at0 to node = at0 to b + g.metric e := by omega
          rw [cond, q1, decide_eq_false this, Bool.and_false, Bool.and_false]
      · simp only [go_sem, simprocAttr, q2, w4]
        refine same ?_
        rw [cond, q1, decide_eq_false q2, Bool.false_and, Bool.and_false]
  · simp only [go_sem, simprocAttr]
    have e : j = (g.out node).length := by omega
    subst e
    rw [List.take_length] at acc
    rw [fin]
    exact acc_out acc (ints_sc _)
end Go.Proofs

set_option linter.unusedSimpArgs false
set_option linter.unusedVariables false
namespace Go.Proofs
open Go.Ab

theorem ref_next_ok (g : Gr) (down : List Bool) (to : List Int) (node : Int) (hto : Mild to) : PGood Try.prog 24 [g.val, .lst (bools down), .lst (ints to), .i node] (.lst (ints (nextOf g down to node))) := by
  refine pgood_of_out 2 (good_of_wp isF24 (Nat.le_refl _) ?_)
  unfold ac24
  simp only [go_sem, simprocAttr, Gr.val]
  intro gid hgid
  have nil : ¬ (g.check.2 = 0 ∧ (to.length : Int) = g.n ∧ (0 ≤ node ∧ node < g.n) ∧ 0 < at0 to node) → ∀ σ : Store, Out 2 σ .nils (.lst (ints (nextOf g down to node))) := fun h σ => by
    unfold nextOf; rw [if_neg h]; exact out_nils
  simp only [go_sem, simprocAttr]
  refine good_imm (rcheck_ok g) rfl ?_
  simp only [go_sem, simprocAttr]
  by_cases hc : g.check.2 = 0
  case neg =>
    simp only [go_sem, simprocAttr, hc]
    exact nil (fun h => hc h.1) _
  simp only [go_sem, simprocAttr, hc]
  by_cases hl : (to.length : Int) = g.n
  case neg =>
    simp only [go_sem, simprocAttr, hl]
    exact nil (fun h => hl h.2.1) _
  simp only [go_sem, simprocAttr, hl]
  refine good_imm (node_ok g.n (.lst (g.ls.map Lk.row)) node) rfl ?_
  simp only [go_sem, simprocAttr]
  by_cases hn : 0 ≤ node ∧ node < g.n
  case neg =>
    simp only [go_sem, simprocAttr, hn]
    exact nil (fun h => hn h.2.2.1) _
  have hni : node.toNat < to.length := by omega
  have x1 : (ints to)[node.toNat]? = some [.sc (.int .i64 (at0 to node))] := ints_get (by simp [hni])
  simp only [go_sem, simprocAttr, hn, x1]
  by_cases hp : at0 to node ≤ 0
  · simp only [go_sem, simprocAttr, hp]
    exact nil (fun h => by omega) _
  obtain ⟨k1, k2, k3, k4⟩ := g.check_ok.1 hc
  have hok : g.Ok := ⟨k1, k2, k3, k4⟩
  simp only [go_sem, simprocAttr, hp]
  refine good_imm (rout_ok g node (by omega)) rfl ?_
  simp only [go_sem, simprocAttr]
  have fin : nextOf g down to node = (g.out node).filter (nextCond g down to node) := by unfold nextOf; rw [if_pos ⟨hc, hl, hn, by omega⟩]
  have hol := g.out_len node
  have gal : ∀ (o : Ab.Obj), Alive (Store.empty.set gid o) [gid] := fun o => alive_cons (Store.get_set_self _ _ _) alive_nil
  refine loop_rule (fun m fr σ => ∃ (j : Nat) (v : AVal), j ≤ (g.out node).length ∧ m = (g.out node).length - j ∧ fr = [(1, .lst (bools down)), (2, .lst (ints to)), (3, .i node), (4, .ptr gid 0 0 0), (11, v), (12, .lst (ints (g.out node))), (13, .i j)] ∧
    σ.get gid = some (.row 0 false 2 [[.sc (.int .i64 g.n), .lst (g.ls.map Lk.row)]]) ∧ Acc σ 1 v (ints (((g.out node).take j).filter (nextCond g down to node))) [gid]) _
    ⟨0, .nils, by omega, rfl, rfl, by simp, acc_nils (gal _)⟩ ?_
  rintro m fr σ ⟨j, v, hj, rfl, rfl, g1, acc⟩
  simp only [go_sem, simprocAttr]
  refine .intro (fun hjl => ?_) (fun hjl => ?_)
  · have hjl' : j < (g.out node).length := by omega
    have hmem := List.getElem_mem hjl'
    have x2 : (ints (g.out node))[j]? = some [.sc (.int .i64 (g.out node)[j])] := ints_get (List.getElem?_eq_getElem hjl')
    have htake : ((g.out node).take (j + 1)).filter (nextCond g down to node) = ((g.out node).take j).filter (nextCond g down to node) ++ (if nextCond g down to node (g.out node)[j] then [(g.out node)[j]] else []) := by
      rw [List.take_succ_eq_append_getElem hjl', List.filter_append]
      congr 1
      simp [List.filter_cons]
    generalize (g.out node)[j] = e at *
    obtain ⟨e1, e2, e3⟩ := g.mem_out hmem
    obtain ⟨v1, v2, v3, v4⟩ := g.ends_of hok e1 e2
    obtain ⟨v5, v6⟩ := g.metric_of hok e1 e2
    have n4 : (0 : Int) ≤ j := by omega
    have w4 : IntKind.i64.wrap ((j : Int) + 1) = ((j + 1 : Nat) : Int) := by rw [wrap_id (by omega) (by omega)]; rfl
    have hjl2 : (j : Int) < (g.out node).length := hjl
    simp only [go_sem, simprocAttr]
    unfold op24_54
    simp only [go_sem, simprocAttr, n4, x2, rowAt_get g1]
    refine goodD_imm (rends_ok g e (by omega)) rfl ?_
    simp only [go_sem, simprocAttr]
    unfold op24_63
    have hq : IntKind.i64.wrap (e.tdiv 2) = e / 2 := by
      rw [Int.tdiv_eq_ediv_of_nonneg (by omega)]
      exact wrap_id (by omega) (by omega)
    simp only [go_sem, simprocAttr, n4, x2, hq]
    refine goodD_imm (isdown_ok down (e / 2)) rfl ?_
    have same : nextCond g down to node e = false → Back (fun m fr σ => ∃ (j : Nat) (v : AVal), j ≤ (g.out node).length ∧ m = (g.out node).length - j ∧ fr = [(1, .lst (bools down)), (2, .lst (ints to)), (3, .i node), (4, .ptr gid 0 0 0), (11, v), (12, .lst (ints (g.out node))), (13, .i j)] ∧
        σ.get gid = some (.row 0 false 2 [[.sc (.int .i64 g.n), .lst (g.ls.map Lk.row)]]) ∧ Acc σ 1 v (ints (((g.out node).take j).filter (nextCond g down to node))) [gid]) ((g.out node).length - j)
        [(1, .lst (bools down)), (2, .lst (ints to)), (3, .i node), (4, .ptr gid 0 0 0), (11, v), (12, .lst (ints (g.out node))), (13, .i ((j + 1 : Nat) : Int))] σ := fun hne => by
      refine back_of ((g.out node).length - (j + 1)) (by omega) ⟨j + 1, v, by omega, rfl, rfl, g1, ?_⟩
      rw [htake, hne]
      simpa using acc
    have hlt : (e / 2).toNat < g.ls.length := by omega
    have x4 : (g.ls.map Lk.row)[(e / 2).toNat]? = some [.sc (.int .i64 (g.ls[(e / 2).toNat]).a), .sc (.int .i64 (g.ls[(e / 2).toNat]).b), .sc (.int .i64 (g.metric e)), .sc (.int .i64 (g.ls[(e / 2).toNat]).c)] := by
      simp [hlt, Lk.row, Gr.metric]
    have n6 : (0 : Int) ≤ e / 2 := by omega
    have cond : nextCond g down to node e = (isUp down e && (decide (0 ≤ at0 to (g.ends e).2.1) && decide (at0 to node = at0 to (g.ends e).2.1 + g.metric e))) := rfl
    generalize hto' : (g.ends e).2.1 = b at *
    have hbi : b.toNat < to.length := by omega
    have x3 : (ints to)[b.toNat]? = some [.sc (.int .i64 (at0 to b))] := ints_get (by simp [hbi])
    have mb : -1 ≤ at0 to b ∧ at0 to b ≤ 1000000000000 := hto _ (by simp [hbi])
    have mn : -1 ≤ at0 to node ∧ at0 to node ≤ 1000000000000 := hto _ (by simp [hni])
    have w5 : IntKind.i64.wrap (at0 to node - at0 to b) = at0 to node - at0 to b := wrap_id (by omega) (by omega)
    have ud := up_down down e e1
    have hn1 := hn.1
    have hnl : node < (to.length : Int) := by omega
    have hbl : b < (to.length : Int) := by omega
    simp only [go_sem, simprocAttr]
    cases q0 : isDown down (e / 2) with
    | true =>
      have q1 : isUp down e = false := by rw [ud, q0]; rfl
      simp only [go_sem, simprocAttr, w4]
      exact same (by rw [cond, q1]; rfl)
    | false =>
      have q1 : isUp down e = true := by rw [ud, q0]; rfl
      simp only [go_sem, simprocAttr, v2.1, x3]
      by_cases q2 : 0 ≤ at0 to b
      · simp only [go_sem, simprocAttr, q2, hn1, x1, rowAt_get g1, hq, n6, x4, w5, v2.1, x3, n4, x2]
        by_cases q3 : at0 to node - at0 to b = g.metric e
        · simp only [go_sem, simprocAttr, q3, n4, x2]
          have ct : nextCond g down to node e = true := by
            have this : at0 to node = at0 to b + g.metric e := by omega
            rw [cond, q1, decide_eq_true q2, decide_eq_true this]; rfl
          intro id2 hid2
          simp only [go_sem, simprocAttr]
          have hlenf := List.length_filter_le (nextCond g down to node) ((g.out node).take j)
          have hlent : ((g.out node).take j).length ≤ j := by simp; omega
          refine acc_append (acc.fresh hid2 _) (by simp only [ints_len, List.length_cons, List.length_nil]; omega) (by simp only [ints_len, List.length_cons, List.length_nil]; omega) fun v' σ' k1 k2 => ?_
          simp only [go_sem, simprocAttr, w4]
          refine back_of _ ?_ ⟨j + 1, v', by omega, rfl, rfl, ?_, ?_⟩
          · omega
          · rw [k2 gid (by simp), get_fresh hid2 (by rw [g1]; rfl), g1]
          · rw [htake, ct, if_pos rfl, ints_app]
            exact k1.less (by simp)
        · simp only [go_sem, simprocAttr, q3, w4]
          refine same ?_
          have this : ¬ at0 to node = at0 to b + g.metric e := by omega
          rw [cond, q1, decide_eq_false this, Bool.and_false, Bool.and_false]
      · simp only [go_sem, simprocAttr, q2, w4]
        refine same ?_
        rw [cond, q1, decide_eq_false q2, Bool.false_and, Bool.and_false]
  · simp only [go_sem, simprocAttr]
    have e : j = (g.out node).length := by omega
    subst e
    rw [List.take_length] at acc
    rw [fin]
    exact acc_out acc (ints_sc _)
end Go.Proofs

set_option linter.unusedSimpArgs false
set_option linter.unusedVariables false
namespace Go.Proofs
open Go.Ab

theorem same_ok (a b : List Int) (ha : a.length < 1000000000) : PGood Try.prog 11 [.lst (ints a), .lst (ints b)] (.b (decide (a = b))) := by
  refine pgood_of_out 1 (good_of_wp isF11 (Nat.le_refl _) ?_)
  unfold ac11
  simp only [go_sem, simprocAttr]
  by_cases hl : (a.length : Int) = b.length
  case neg =>
    simp only [go_sem, simprocAttr, hl]
    have e : ¬ a = b := fun e => hl (by rw [e])
    rw [decide_eq_false e]
    exact out_sc
  simp only [go_sem, simprocAttr, hl]
  refine loop_rule (fun m fr σ => ∃ (i : Nat), i ≤ a.length ∧ m = a.length - i ∧ fr = [(0, .lst (ints a)), (1, .lst (ints b)), (5, .i i)] ∧ a.take i = b.take i) _ ⟨0, by omega, rfl, rfl, rfl⟩ ?_
  rintro m fr σ ⟨i, hi, rfl, rfl, ht⟩
  simp only [go_sem, simprocAttr, hl]
  refine .intro (fun h => ?_) (fun h => ?_)
  · have hia : i < a.length := by omega
    have hib : i < b.length := by omega
    have x1 : (ints a)[i]? = some [.sc (.int .i64 a[i])] := ints_get (List.getElem?_eq_getElem hia)
    have x2 : (ints b)[i]? = some [.sc (.int .i64 b[i])] := ints_get (List.getElem?_eq_getElem hib)
    have n1 : (0 : Int) ≤ i := by omega
    have w4 : IntKind.i64.wrap ((i : Int) + 1) = ((i + 1 : Nat) : Int) := by rw [wrap_id (by omega) (by omega)]; rfl
    have t1 : a.take (i + 1) = a.take i ++ [a[i]] := List.take_succ_eq_append_getElem hia
    have t2 : b.take (i + 1) = b.take i ++ [b[i]] := List.take_succ_eq_append_getElem hib
    generalize ga : a[i] = u at *
    generalize gb : b[i] = v at *
    simp only [go_sem, simprocAttr]
    unfold op11_17
    simp only [go_sem, simprocAttr, x1, x2, n1]
    by_cases huv : u = v
    · subst huv
      simp only [go_sem, simprocAttr, w4]
      exact back_of _ (by omega) ⟨i + 1, by omega, rfl, rfl, by rw [t1, t2, ht]⟩
    · simp only [go_sem, simprocAttr, huv]
      have e : ¬ a = b := fun e => huv (by subst e; rw [← ga, ← gb])
      rw [decide_eq_false e]
      exact out_sc
  · simp only [go_sem, simprocAttr]
    have e : a = b := by
      have e1 : i = a.length := by omega
      subst e1
      rw [List.take_length, List.take_of_length_le (by omega)] at ht
      exact ht
    rw [decide_eq_true e]
    exact out_sc
end Go.Proofs

set_option linter.unusedSimpArgs false
set_option linter.unusedVariables false
namespace Go.Proofs
open Go.Ab

def usesCond (g : Gr) (down : List Bool) (a b : List Int) (to : Int) (k : Int) : Bool :=
  !isDown down (k / 2) && (decide (0 ≤ at0 a (g.ends k).1) && (decide (0 ≤ at0 b (g.ends k).2.1) && decide (at0 a (g.ends k).1 + g.metric k + at0 b (g.ends k).2.1 = at0 a to)))
def upto (n : Nat) : List Int := (List.range n).map fun (k : Nat) => (k : Int)
theorem upto_succ (n : Nat) : upto (n + 1) = upto n ++ [(n : Int)] := by simp [upto, List.range_succ]
theorem upto_len (n : Nat) : (upto n).length = n := by simp [upto]
def usesOf (g : Gr) (down : List Bool) (from_ to : Int) : List Int :=
  if refFrom g down from_ = [] ∨ refFrom g down to = [] ∨ at0 (refFrom g down from_) to < 0 then [] else (upto (2 * g.ls.length)).filter (usesCond g down (refFrom g down from_) (refFrom g down to) to)

theorem ref_uses_ok (g : Gr) (down : List Bool) (from_ to : Int) : PGood Try.prog 13 [g.val, .lst (bools down), .i from_, .i to] (.lst (ints (usesOf g down from_ to))) := by
  refine pgood_of_out 2 (good_of_wp isF13 (Nat.le_refl _) ?_)
  unfold ac13
  simp only [go_sem, simprocAttr, Gr.val]
  intro gid hgid
  simp only [go_sem, simprocAttr]
  refine good_imm (ref_from_ok g down from_) rfl ?_
  simp only [go_sem, simprocAttr]
  refine good_imm (ref_from_ok g down to) rfl ?_
  have amild : ∀ x ∈ refFrom g down from_, -1 ≤ x ∧ x ≤ 671088640 := refFrom_mild
  have bmild : ∀ x ∈ refFrom g down to, -1 ≤ x ∧ x ≤ 671088640 := refFrom_mild
  have anil := refFrom_nil (g := g) (down := down) (node := from_)
  have bnil := refFrom_nil (g := g) (down := down) (node := to)
  have hdef : usesOf g down from_ to = if refFrom g down from_ = [] ∨ refFrom g down to = [] ∨ at0 (refFrom g down from_) to < 0 then [] else (upto (2 * g.ls.length)).filter (usesCond g down (refFrom g down from_) (refFrom g down to) to) := rfl
  have alen : g.check.2 = 0 ∧ 0 ≤ from_ ∧ from_ < g.n → (refFrom g down from_).length = g.n.toNat := fun h => (refFrom_dist (g.check_ok.1 h.1) h.2).len
  have blen : g.check.2 = 0 ∧ 0 ≤ to ∧ to < g.n → (refFrom g down to).length = g.n.toNat := fun h => (refFrom_dist (g.check_ok.1 h.1) h.2).len
  generalize refFrom g down from_ = a at *
  generalize refFrom g down to = b at *
  have nil : (a = [] ∨ b = [] ∨ at0 a to < 0) → ∀ σ : Store, Out 2 σ .nils (.lst (ints (usesOf g down from_ to))) := fun h σ => by
    rw [hdef, if_pos h]; exact out_nils
  simp only [go_sem, simprocAttr]
  by_cases ha : a = []
  · have h0 : (a.length : Int) = 0 := by rw [ha]; rfl
    simp only [go_sem, simprocAttr, h0]
    exact nil (.inl ha) _
  have h0 : ¬ (a.length : Int) = 0 := fun h => ha (List.eq_nil_of_length_eq_zero (by omega))
  simp only [go_sem, simprocAttr, h0]
  by_cases hb : b = []
  · have h1 : (b.length : Int) = 0 := by rw [hb]; rfl
    simp only [go_sem, simprocAttr, h1]
    exact nil (.inr (.inl hb)) _
  have h1 : ¬ (b.length : Int) = 0 := fun h => hb (List.eq_nil_of_length_eq_zero (by omega))
  have ga : g.check.2 = 0 ∧ 0 ≤ from_ ∧ from_ < g.n := Decidable.byContradiction fun h => ha (anil.2 h)
  have gb : g.check.2 = 0 ∧ 0 ≤ to ∧ to < g.n := Decidable.byContradiction fun h => hb (bnil.2 h)
  have al := alen ga
  have bl := blen gb
  obtain ⟨k1, k2, k3, k4⟩ := g.check_ok.1 ga.1
  have hok : g.Ok := ⟨k1, k2, k3, k4⟩
  have hti : to.toNat < a.length := by omega
  have n1 : 0 ≤ to := gb.2.1
  have n2 : to < (a.length : Int) := by omega
  have x1 : (ints a)[to.toNat]? = some [.sc (.int .i64 (at0 a to))] := ints_get (by simp [hti])
  simp only [go_sem, simprocAttr, h1, n1, n2, x1]
  by_cases hneg : at0 a to < 0
  · simp only [go_sem, simprocAttr, hneg]
    exact nil (.inr (.inr hneg)) _
  simp only [go_sem, simprocAttr, hneg]
  have fin : usesOf g down from_ to = (upto (2 * g.ls.length)).filter (usesCond g down a b to) := by rw [hdef, if_neg (fun h => h.elim ha fun h => h.elim hb hneg)]
  have gal : ∀ (o : Ab.Obj), Alive (Store.empty.set gid o) [gid] := fun o => alive_cons (Store.get_set_self _ _ _) alive_nil
  let I : Nat → Fr → Store → Prop := fun m fr σ => ∃ (k : Nat) (v : AVal), k ≤ 2 * g.ls.length ∧ m = 2 * g.ls.length - k ∧ fr = [(1, .lst (bools down)), (3, .i to), (4, .ptr gid 0 0 0), (9, .lst (ints a)), (10, .lst (ints b)), (11, v), (12, .i k)] ∧
    σ.get gid = some (.row 0 false 2 [[.sc (.int .i64 g.n), .lst (g.ls.map Lk.row)]]) ∧ Acc σ 1 v (ints ((upto k).filter (usesCond g down a b to))) [gid]
  refine loop_rule I _ ⟨0, .nils, by omega, rfl, rfl, by simp, acc_nils (gal _)⟩ ?_
  rintro m fr σ ⟨k, v, hk, rfl, rfl, g1, acc⟩
  have w2 : IntKind.i64.wrap (2 * (g.ls.length : Int)) = 2 * g.ls.length := wrap_id (by omega) (by omega)
  simp only [go_sem, simprocAttr, rowAt_get g1, w2]
  refine .intro (fun hkl => ?_) (fun hkl => ?_)
  · have hkl' : k < 2 * g.ls.length := by omega
    simp only [go_sem, simprocAttr, rowAt_get g1]
    refine good_imm (rends_ok g k (by omega)) rfl ?_
    simp only [go_sem, simprocAttr]
    unfold op13_54
    obtain ⟨v1, v2, v3, v4⟩ := g.ends_of hok (e := k) (by omega) (by omega)
    obtain ⟨v5, v6⟩ := g.metric_of hok (e := k) (by omega) (by omega)
    have hq : IntKind.i64.wrap ((k : Int).tdiv 2) = (k : Int) / 2 := by
      rw [Int.tdiv_eq_ediv_of_nonneg (by omega)]
      exact wrap_id (by omega) (by omega)
    have hlt : ((k : Int) / 2).toNat < g.ls.length := by omega
    have x4 : (g.ls.map Lk.row)[((k : Int) / 2).toNat]? = some [.sc (.int .i64 (g.ls[((k : Int) / 2).toNat]).a), .sc (.int .i64 (g.ls[((k : Int) / 2).toNat]).b), .sc (.int .i64 (g.metric k)), .sc (.int .i64 (g.ls[((k : Int) / 2).toNat]).c)] := by
      simp [hlt, Lk.row, Gr.metric]
    have n6 : (0 : Int) ≤ (k : Int) / 2 := by omega
    have w4 : IntKind.i64.wrap ((k : Int) + 1) = ((k + 1 : Nat) : Int) := by rw [wrap_id (by omega) (by omega)]; rfl
    have cond : usesCond g down a b to k = (!isDown down ((k : Int) / 2) && (decide (0 ≤ at0 a (g.ends k).1) && (decide (0 ≤ at0 b (g.ends k).2.1) && decide (at0 a (g.ends k).1 + g.metric k + at0 b (g.ends k).2.1 = at0 a to)))) := rfl
    have step : (upto (k + 1)).filter (usesCond g down a b to) = (upto k).filter (usesCond g down a b to) ++ (if usesCond g down a b to k then [(k : Int)] else []) := by
      rw [upto_succ, List.filter_append]
      congr 1
      simp [List.filter_cons]
    generalize hx : (g.ends k).1 = x at *
    generalize hy : (g.ends k).2.1 = y at *
    have hxi : x.toNat < a.length := by omega
    have hyi : y.toNat < b.length := by omega
    have x2 : (ints a)[x.toNat]? = some [.sc (.int .i64 (at0 a x))] := ints_get (by simp [hxi])
    have x3 : (ints b)[y.toNat]? = some [.sc (.int .i64 (at0 b y))] := ints_get (by simp [hyi])
    have m1 : -1 ≤ at0 a x ∧ at0 a x ≤ 671088640 := amild _ (by simp [hxi])
    have m2 : -1 ≤ at0 b y ∧ at0 b y ≤ 671088640 := bmild _ (by simp [hyi])
    have l1 : x < (a.length : Int) := by omega
    have l2 : y < (b.length : Int) := by omega
    have p1 := v1.1
    have p2 := v2.1
    have w5 : IntKind.i64.wrap (at0 a x + g.metric k) = at0 a x + g.metric k := wrap_id (by omega) (by omega)
    have w6 : IntKind.i64.wrap (at0 a x + g.metric k + at0 b y) = at0 a x + g.metric k + at0 b y := wrap_id (by omega) (by omega)
    have same : usesCond g down a b to k = false → Back I (2 * g.ls.length - k) [(1, .lst (bools down)), (3, .i to), (4, .ptr gid 0 0 0), (9, .lst (ints a)), (10, .lst (ints b)), (11, v), (12, .i ((k + 1 : Nat) : Int))] σ := fun hne => by
      refine back_of (2 * g.ls.length - (k + 1)) (by omega) ⟨k + 1, v, by omega, rfl, rfl, g1, ?_⟩
      rw [step, hne]
      simpa using acc
    simp only [go_sem, simprocAttr, hq]
    refine goodD_imm (isdown_ok down ((k : Int) / 2)) rfl ?_
    simp only [go_sem, simprocAttr]
    cases q0 : isDown down ((k : Int) / 2) with
    | true =>
      simp only [go_sem, simprocAttr, w4]
      exact same (by rw [cond, q0]; rfl)
    | false =>
      simp only [go_sem, simprocAttr, p1, l1, x2]
      by_cases q1 : 0 ≤ at0 a x
      · simp only [go_sem, simprocAttr, q1, p2, l2, x3]
        by_cases q2 : 0 ≤ at0 b y
        · simp only [go_sem, simprocAttr, q2, p1, l1, x2, p2, l2, x3, rowAt_get g1, hq, n6, x4, w5, w6, n1, n2, x1]
          by_cases q3 : at0 a x + g.metric k + at0 b y = at0 a to
          · simp only [go_sem, simprocAttr, q3]
            have ct : usesCond g down a b to k = true := by rw [cond, q0, decide_eq_true q1, decide_eq_true q2, decide_eq_true q3]; rfl
            intro id2 hid2
            simp only [go_sem, simprocAttr]
            have hlenf := List.length_filter_le (usesCond g down a b to) (upto k)
            rw [upto_len] at hlenf
            refine acc_append (acc.fresh hid2 _) (by simp only [ints_len, List.length_cons, List.length_nil]; omega) (by simp only [ints_len, List.length_cons, List.length_nil]; omega) fun v' σ' k1 k2 => ?_
            simp only [go_sem, simprocAttr, w4]
            refine back_of _ ?_ ⟨k + 1, v', by omega, rfl, rfl, ?_, ?_⟩
            · omega
            · rw [k2 gid (by simp), get_fresh hid2 (by rw [g1]; rfl), g1]
            · rw [step, ct, if_pos rfl, ints_app]
              exact k1.less (by simp)
          · simp only [go_sem, simprocAttr, q3, w4]
            exact same (by rw [cond, decide_eq_false q3]; simp)
        · simp only [go_sem, simprocAttr, q2, w4]
          exact same (by rw [cond, decide_eq_false q2]; simp)
      · simp only [go_sem, simprocAttr, q1, w4]
        exact same (by rw [cond, decide_eq_false q1]; simp)
  · simp only [go_sem, simprocAttr]
    have e : k = 2 * g.ls.length := by omega
    subst e
    rw [fin]
    exact acc_out acc (ints_sc _)
end Go.Proofs

set_option linter.unusedSimpArgs false
set_option linter.unusedVariables false
namespace Go.Proofs
open Go.Ab

/-! ### The reference's counts -/
def cutS (x : Int) : Int := if x < 0 then 0 else if 1099511627776 < x then 1099511627776 else x
def fewStep (F : Int → Int) (g : Gr) (s : Bool × Int) (e : Int) : Bool × Int := (false, if s.1 = true ∨ F (g.ends e).2.1 + 1 < s.2 then F (g.ends e).2.1 + 1 else s.2)
def manyStep (M : Int → Int) (g : Gr) (s : Int) (e : Int) : Int := if s < M (g.ends e).2.1 + 1 then M (g.ends e).2.1 + 1 else s
def waysStep (P : Int → Int) (g : Gr) (s : Int) (e : Int) : Int := cutS (s + P (g.ends e).2.1)
structure IsCnt (g : Gr) (down : List Bool) (d : List Int) (P F M : Int → Int) : Prop where
  zero : ∀ v, 0 ≤ v → v < g.n → at0 d v = 0 → P v = 1 ∧ F v = 0 ∧ M v = 0
  p : ∀ v, 0 ≤ v → v < g.n → 0 < at0 d v → P v = (nextOf g down d v).foldl (waysStep P g) 0
  f : ∀ v, 0 ≤ v → v < g.n → 0 < at0 d v → F v = ((nextOf g down d v).foldl (fewStep F g) (true, 0)).2
  m : ∀ v, 0 ≤ v → v < g.n → 0 < at0 d v → M v = (nextOf g down d v).foldl (manyStep M g) 0
  bp : ∀ v, 0 ≤ v → v < g.n → 0 ≤ at0 d v → 0 ≤ P v ∧ P v ≤ 1099511627776
  bf : ∀ v, 0 ≤ v → v < g.n → 0 ≤ at0 d v → 0 ≤ F v ∧ F v ≤ at0 d v
  bm : ∀ v, 0 ≤ v → v < g.n → 0 ≤ at0 d v → 0 ≤ M v ∧ M v ≤ at0 d v

/-- Three lists: of each node up to this distance nothing yet, or all. -/
def CntInv (g : Gr) (d : List Int) (P F M : Int → Int) (D : Int) (k f m : List Int) : Prop :=
  ∀ v, 0 ≤ v → v < g.n → 0 ≤ at0 d v → at0 d v ≤ D → (at0 k v = -1 ∧ at0 f v = 0 ∧ at0 m v = 0) ∨ (at0 k v = P v ∧ at0 f v = F v ∧ at0 m v = M v)
structure CntPost (g : Gr) (d : List Int) (P F M : Int → Int) (D node : Int) (k f m k' f' m' : List Int) : Prop where
  inv : CntInv g d P F M D k' f' m'
  done : at0 k' node = P node ∧ at0 f' node = F node ∧ at0 m' node = M node
  keep : ∀ v, 0 ≤ v → v < g.n → ¬ (0 ≤ at0 d v ∧ at0 d v ≤ D) → at0 k' v = at0 k v ∧ at0 f' v = at0 f v ∧ at0 m' v = at0 m v
  stay : ∀ v, 0 ≤ v → v < g.n → 0 ≤ at0 d v → at0 d v ≤ D → at0 k v = P v → at0 k' v = P v ∧ at0 f' v = F v ∧ at0 m' v = M v
end Go.Proofs

set_option linter.unusedSimpArgs false
set_option linter.unusedVariables false
namespace Go.Proofs
open Go.Ab

theorem nextOf_mem {g : Gr} (hg : g.Ok) {down : List Bool} {d : List Int} {v e : Int} (h : e ∈ nextOf g down d v) :
    (0 ≤ e ∧ e < 2 * (g.ls.length : Int)) ∧ (g.ends e).1 = v ∧ (0 ≤ (g.ends e).2.1 ∧ (g.ends e).2.1 < g.n) ∧ 0 ≤ at0 d (g.ends e).2.1 ∧ at0 d v = at0 d (g.ends e).2.1 + g.metric e ∧ 1 ≤ g.metric e ∧ isUp down e = true := by
  unfold nextOf at h
  split at h
  · rw [List.mem_filter] at h
    obtain ⟨h1, h2⟩ := h
    obtain ⟨e1, e2, e3⟩ := g.mem_out h1
    obtain ⟨v1, v2, _⟩ := g.ends_of hg e1 e2
    obtain ⟨m1, _⟩ := g.metric_of hg e1 e2
    unfold nextCond at h2
    rw [Bool.and_eq_true, Bool.and_eq_true] at h2
    exact ⟨⟨e1, e2⟩, e3, v2, of_decide_eq_true h2.2.1, of_decide_eq_true h2.2.2, m1, h2.1⟩
  · cases h

structure CntMid (g : Gr) (d : List Int) (P F M : Int → Int) (D node n : Int) (l : List Int) (k0 f0 m0 k f m : List Int) : Prop where
  low : CntInv g d P F M (D - 1) k f m
  high : ∀ v, 0 ≤ v → v < g.n → ¬ (0 ≤ at0 d v ∧ at0 d v ≤ D - 1) → v ≠ node → at0 k v = at0 k0 v ∧ at0 f v = at0 f0 v ∧ at0 m v = at0 m0 v
  kn : at0 k node = -1
  fn : at0 f node = (l.foldl (fewStep F g) (true, 0)).2
  mn : at0 m node = l.foldl (manyStep M g) 0
  nn : n = l.foldl (waysStep P g) 0
  stay : ∀ v, 0 ≤ v → v < g.n → 0 ≤ at0 d v → at0 d v ≤ D - 1 → at0 k0 v = P v → at0 k v = P v ∧ at0 f v = F v ∧ at0 m v = M v

theorem few_flag (F : Int → Int) (g : Gr) : ∀ (l : List Int), (l.foldl (fewStep F g) (true, 0)).1 = decide (l = []) := by
  intro l
  rcases List.eq_nil_or_concat l with h | ⟨r, x, h⟩
  · subst h; rfl
  · subst h
    rw [List.concat_eq_append, List.foldl_append]
    simp [fewStep]
theorem mem_at0 {l : List Int} {v n : Int} (hl : l.length = n.toNat) (h0 : 0 ≤ v) (h1 : v < n) : (ints l)[v.toNat]? = some [.sc (.int .i64 (at0 l v))] := by
  have : v.toNat < l.length := by omega
  exact ints_get (by simp [this])

theorem ways_bound (P : Int → Int) (g : Gr) : ∀ (l : List Int) (s : Int), 0 ≤ s ∧ s ≤ 1099511627776 → 0 ≤ l.foldl (waysStep P g) s ∧ l.foldl (waysStep P g) s ≤ 1099511627776
  | [], s, h => h
  | e :: r, s, h => by
    rw [List.foldl_cons]
    refine ways_bound P g r _ ?_
    unfold waysStep cutS
    split
    · omega
    · split <;> omega
theorem mild_at {d : List Int} (hm : Mild d) {n v : Int} (hl : d.length = n.toNat) (h0 : 0 ≤ v) (h1 : v < n) : at0 d v ≤ 1000000000000 := by
  have : v.toNat < d.length := by omega
  exact (hm _ (by simp [this])).2
theorem wrapS_add {a b : Int} (h0 : 0 ≤ a ∧ a ≤ 1099511627776) (h1 : 0 ≤ b ∧ b ≤ 1099511627776) : IntKind.i64.wrap (a + b) = a + b := wrap_id (by omega) (by omega)
theorem lt_toNat {b n : Int} (h0 : 0 ≤ b) (h1 : b < n) : b < (n.toNat : Int) := by omega
theorem nat_eq0 (i : Nat) : ((i : Int) = 0) = (i = 0) := by apply propext; constructor <;> intro h <;> omega
theorem le_mild {a b : Int} (h0 : a ≤ b) (h1 : b ≤ 1000000000000) : a ≤ 1099511627776 := by omega
theorem mild_lt {a b : Int} (h : a ≤ b) (h1 : b ≤ 1000000000000) (h0 : 0 ≤ a) : IntKind.i64.wrap (a + 1) = a + 1 := wrap_id (by omega) (by omega)
theorem toNat_lt' {b n : Int} {k : Nat} (hk : k = n.toNat) (h0 : 0 ≤ b) (h1 : b < n) : b.toNat < k := by omega
theorem mid_step {g : Gr} {down : List Bool} {d : List Int} {P F M : Int → Int} (hc : IsCnt g down d P F M) {node : Int} (h0 : 0 ≤ node) (h1 : node < g.n) (h2 : 0 ≤ at0 d node) {n : Int} {l k f m k2 f2 m2 k3 f3 m3 f4 m4 : List Int} {e b : Int} {c : Prop} [Decidable c]
    (mid : CntMid g d P F M (at0 d node) node n l k f m k2 f2 m2) (post : CntPost g d P F M (at0 d b) b k2 f2 m2 k3 f3 m3) (hb : (g.ends e).2.1 = b) (e4 : 0 ≤ b ∧ b < g.n) (e5 : 0 ≤ at0 d b) (e6 : at0 d node = at0 d b + g.metric e) (e7 : 1 ≤ g.metric e)
    (z7 : at0 f4 node = if c ∨ F b + 1 < at0 f2 node then F b + 1 else at0 f2 node) (z8 : at0 m4 node = if at0 m2 node < M b + 1 then M b + 1 else at0 m2 node) (z9 : ∀ v, 0 ≤ v → v ≠ node → at0 f4 v = at0 f3 v) (z10 : ∀ v, 0 ≤ v → v ≠ node → at0 m4 v = at0 m3 v)
    (hflag : ((l.foldl (fewStep F g) (true, 0)).1 = true) ↔ c) : CntMid g d P F M (at0 d node) node (cutS (n + P b)) (l ++ [e]) k f m k3 f4 m4 := by
  have hlt : at0 d b < at0 d node := by omega
  have hne : ¬ (0 ≤ at0 d node ∧ at0 d node ≤ at0 d b) := by omega
  obtain ⟨r1, r2, r3⟩ := post.keep node h0 h1 hne
  have hle : at0 d b ≤ at0 d node - 1 := by omega
  have hn1 : ∀ v, at0 d v ≤ at0 d node - 1 → v ≠ node := fun v hv e => by rw [e] at hv; omega
  refine ⟨fun v v0 v1 v2 v3 => ?_, fun v v0 v1 v2 v3 => ?_, ?_, ?_, ?_, ?_, fun v v0 v1 v2 v3 hp => ?_⟩
  · rw [z9 v v0 (hn1 v v3), z10 v v0 (hn1 v v3)]
    by_cases hv : at0 d v ≤ at0 d b
    · exact post.inv v v0 v1 v2 hv
    · obtain ⟨s1, s2, s3⟩ := post.keep v v0 v1 (fun h => hv h.2)
      rw [s1, s2, s3]
      exact mid.low v v0 v1 v2 v3
  · rw [z9 v v0 v3, z10 v v0 v3]
    obtain ⟨s1, s2, s3⟩ := post.keep v v0 v1 (fun h => v2 ⟨h.1, Int.le_trans h.2 hle⟩)
    rw [s1, s2, s3]
    exact mid.high v v0 v1 v2 v3
  · rw [r1]; exact mid.kn
  · rw [z7, List.foldl_append]
    simp only [List.foldl_cons, List.foldl_nil, fewStep, hb, hflag, ← mid.fn]
  · rw [z8, List.foldl_append]
    simp only [List.foldl_cons, List.foldl_nil, manyStep, hb, ← mid.mn]
  · rw [List.foldl_append, mid.nn]
    simp only [List.foldl_cons, List.foldl_nil, waysStep, hb]
  · rw [z9 v v0 (hn1 v v3), z10 v v0 (hn1 v v3)]
    obtain ⟨u1, u2, u3⟩ := mid.stay v v0 v1 v2 v3 hp
    by_cases hv : at0 d v ≤ at0 d b
    · exact post.stay v v0 v1 v2 hv u1
    · obtain ⟨s1, s2, s3⟩ := post.keep v v0 v1 (fun h => hv h.2)
      rw [s1, s2, s3]
      exact ⟨u1, u2, u3⟩
set_option maxHeartbeats 400000 in
theorem counts_ok (g : Gr) (hg : g.Ok) (down : List Bool) (d : List Int) (hdl : d.length = g.n.toNat) (hm : Mild d) (P F M : Int → Int) (hc : IsCnt g down d P F M) :
    ∀ (N : Nat) (node : Int), 0 ≤ node → node < g.n → 0 ≤ at0 d node → at0 d node < N → ∀ (σ : Store) (k f m : List Int) (ik jf im : Nat), ik ≠ jf → ik ≠ im → jf ≠ im →
      σ.get ik = some (.row 0 false 1 (ints k)) → σ.get jf = some (.row 0 false 1 (ints f)) → σ.get im = some (.row 0 false 1 (ints m)) → k.length = g.n.toNat → f.length = g.n.toNat → m.length = g.n.toNat →
      CntInv g d P F M (at0 d node) k f m →
      Ab.Good Try.prog 20 [g.val, .lst (bools down), .lst (ints d), .i node, .sl ik 0 0 g.n.toNat 1, .sl jf 0 0 g.n.toNat 1, .sl im 0 0 g.n.toNat 1] σ (fun r σ' => ∃ k' f' m', σ'.get ik = some (.row 0 false 1 (ints k')) ∧ σ'.get jf = some (.row 0 false 1 (ints f')) ∧ σ'.get im = some (.row 0 false 1 (ints m')) ∧
        k'.length = g.n.toNat ∧ f'.length = g.n.toNat ∧ m'.length = g.n.toNat ∧ CntPost g d P F M (at0 d node) node k f m k' f' m' ∧ ∀ j o, σ.get j = some o → j ≠ ik → j ≠ jf → j ≠ im → σ'.get j = some o) := by
  intro N
  induction N with
  | zero => intro node h0 h1 h2 h3; omega
  | succ N ih =>
    intro node h0 h1 h2 h3 σ k f m ik jf im d1 d2 d3 gk gf gm lk lf lm hinv
    refine good_of_wp isF20 (Nat.le_refl _) ?_
    unfold ac20
    simp only [go_sem, simprocAttr, Gr.val]
    intro gid hgid
    have q1 : ik ≠ gid := fun e => by rw [e, hgid] at gk; cases gk
    have q2 : jf ≠ gid := fun e => by rw [e, hgid] at gf; cases gf
    have q3 : im ≠ gid := fun e => by rw [e, hgid] at gm; cases gm
    have l1 : node < (g.n.toNat : Int) := by omega
    have x1 := mem_at0 lk h0 h1
    have x2 := mem_at0 hdl h0 h1
    have n2 : node < (d.length : Int) := by omega
    simp only [go_sem, simprocAttr, h0, l1, rowAt_ne q1, rowAt_get gk, x1]
    by_cases hk : 0 ≤ at0 k node
    · simp only [go_sem, simprocAttr, hk]
      have hd : at0 k node = P node ∧ at0 f node = F node ∧ at0 m node = M node := by
        rcases hinv node h0 h1 h2 (Int.le_refl _) with h | h
        · omega
        · exact h
      refine ⟨k, f, m, by rw [Store.get_set_ne _ _ q1, gk], by rw [Store.get_set_ne _ _ q2, gf], by rw [Store.get_set_ne _ _ q3, gm], lk, lf, lm, ⟨hinv, hd, fun v _ _ _ => ⟨rfl, rfl, rfl⟩, fun v v0 v1 v2 v3 hp => ?_⟩, fun j o hj _ _ _ => ?_⟩
      · rcases hinv v v0 v1 v2 v3 with h | h
        · have := (hc.bp v v0 v1 v2).1; omega
        · exact h
      · rw [get_fresh hgid (by rw [hj]; rfl), hj]
    simp only [go_sem, simprocAttr, hk, n2, x2]
    have hk1 : at0 k node = -1 ∧ at0 f node = 0 ∧ at0 m node = 0 := by
      rcases hinv node h0 h1 h2 (Int.le_refl _) with h | h
      · exact h
      · have := (hc.bp node h0 h1 h2).1; omega
    have others : ∀ (τ : Store) (o : Ab.Obj), (∀ j p, σ.get j = some p → j ≠ ik → j ≠ jf → j ≠ im → τ.get j = some p) → ∀ j p, σ.get j = some p → j ≠ ik → j ≠ jf → j ≠ im → (τ.set ik o).get j = some p := fun τ o h j p hj a b c => by
      rw [Store.get_set_ne _ _ a]; exact h j p hj a b c
    have oth0 : ∀ (o : Ab.Obj) j p, σ.get j = some p → j ≠ ik → j ≠ jf → j ≠ im → (σ.set gid o).get j = some p := fun o j p hj _ _ _ => by rw [get_fresh hgid (by rw [hj]; rfl), hj]
    have hnk : node.toNat < k.length := by omega
    by_cases hz : at0 d node = 0
    · simp only [go_sem, simprocAttr, hz, h0, l1, rowAt_ne q1, rowAt_get gk, x1]
      have hrow : (ints k).set node.toNat [AVal.sc (.int .i64 1)] = ints (k.set node.toNat 1) := (ints_set _ _ _).symm
      rw [hrow]
      obtain ⟨z1, z2, z3⟩ := hc.zero node h0 h1 hz
      have kget : ∀ v, 0 ≤ v → at0 (k.set node.toNat 1) v = if v = node then 1 else at0 k v := fun v v0 => at0_set h0 hnk v0
      rw [hz] at hinv
      refine ⟨k.set node.toNat 1, f, m, by simp, by rw [Store.get_set_ne _ _ (fun e => d1 e.symm), Store.get_set_ne _ _ q2, gf], by rw [Store.get_set_ne _ _ (fun e => d2 e.symm), Store.get_set_ne _ _ q3, gm], by simpa using lk, lf, lm, ⟨fun v v0 v1 v2 v3 => ?_, ⟨?_, ?_, ?_⟩, fun v v0 v1 v2 => ?_, fun v v0 v1 v2 v3 hp => ?_⟩, others _ _ (oth0 _)⟩
      · rw [kget v v0]
        split
        · rename_i e; subst e; exact .inr ⟨z1.symm, by rw [z2]; exact hk1.2.1, by rw [z3]; exact hk1.2.2⟩
        · exact hinv v v0 v1 v2 v3
      · rw [kget node h0, if_pos rfl, z1]
      · rw [z2]; exact hk1.2.1
      · rw [z3]; exact hk1.2.2
      · rw [kget v v0, if_neg (fun e => v2 (by rw [e, hz]; exact ⟨Int.le_refl _, Int.le_refl _⟩))]
        exact ⟨rfl, rfl, rfl⟩
      · rw [kget v v0]
        split
        · rename_i e; subst e; exact ⟨z1.symm, by rw [z2]; exact hk1.2.1, by rw [z3]; exact hk1.2.2⟩
        · rcases hinv v v0 v1 v2 v3 with h | h
          · have := (hc.bp v v0 v1 v2).1; omega
          · exact h
    simp only [go_sem, simprocAttr, hz, h0]
    refine good_imm (ref_next_ok g down d node hm) rfl ?_
    simp only [go_sem, simprocAttr]
    have hpos : 0 < at0 d node := by omega
    have ep := hc.p node h0 h1 hpos
    have ef := hc.f node h0 h1 hpos
    have em := hc.m node h0 h1 hpos
    have hmem : ∀ e ∈ nextOf g down d node, _ := fun e he => nextOf_mem hg he
    have hlen : (nextOf g down d node).length ≤ 2 * g.ls.length := by
      unfold nextOf
      split
      · exact Nat.le_trans (List.length_filter_le _ _) (g.out_len node)
      · simp
    have glen := hg.1
    generalize nextOf g down d node = l at *
    let I : Nat → Fr → Store → Prop := fun mm fr τ => ∃ (i : Nat) (n : Int) (k2 f2 m2 : List Int), i ≤ l.length ∧ mm = l.length - i ∧ fr = [(1, .lst (bools down)), (2, .lst (ints d)), (3, .i node), (4, .sl ik 0 0 g.n.toNat 1), (5, .sl jf 0 0 g.n.toNat 1), (6, .sl im 0 0 g.n.toNat 1), (7, .ptr gid 0 0 0), (14, .i n), (15, .lst (ints l)), (16, .i i)] ∧
      τ.get ik = some (.row 0 false 1 (ints k2)) ∧ τ.get jf = some (.row 0 false 1 (ints f2)) ∧ τ.get im = some (.row 0 false 1 (ints m2)) ∧ τ.get gid = some (.row 0 false 2 [[.sc (.int .i64 g.n), .lst (g.ls.map Lk.row)]]) ∧
      k2.length = g.n.toNat ∧ f2.length = g.n.toNat ∧ m2.length = g.n.toNat ∧ CntMid g d P F M (at0 d node) node n (l.take i) k f m k2 f2 m2 ∧ (∀ j p, σ.get j = some p → j ≠ ik → j ≠ jf → j ≠ im → τ.get j = some p)
    refine loop_rule I l.length
      ⟨0, 0, k, f, m, by omega, rfl, rfl, by rw [Store.get_set_ne _ _ q1, gk], by rw [Store.get_set_ne _ _ q2, gf], by rw [Store.get_set_ne _ _ q3, gm], by simp, lk, lf, lm, ⟨fun v v0 v1 v2 v3 => hinv v v0 v1 v2 (by omega), fun v _ _ _ _ => ⟨rfl, rfl, rfl⟩, hk1.1, by rw [hk1.2.1]; rfl, by rw [hk1.2.2]; rfl, rfl, fun v v0 v1 v2 v3 hp => by
        rcases hinv v v0 v1 v2 (by omega) with h | h
        · have := (hc.bp v v0 v1 v2).1; omega
        · exact h⟩, oth0 _⟩ ?_
    rintro mm fr τ ⟨i, n, k2, f2, m2, hi, rfl, rfl, tk, tf, tm, tg, lk2, lf2, lm2, mid, oth⟩
    simp only [go_sem, simprocAttr]
    refine .intro (fun hil => ?_) (fun hil => ?_)
    · have hil' : i < l.length := by omega
      have hme := hmem _ (List.getElem_mem hil')
      have x3 : (ints l)[i]? = some [.sc (.int .i64 l[i])] := ints_get (List.getElem?_eq_getElem hil')
      have htake : l.take (i + 1) = l.take i ++ [l[i]] := List.take_succ_eq_append_getElem hil'
      have hflag := few_flag F g (l.take i)
      have hflag2 : (l.take i = []) ↔ i = 0 := by
        constructor
        · intro h
          have : (l.take i).length = 0 := by rw [h]; rfl
          rw [List.length_take] at this; omega
        · intro h; subst h; rfl
      generalize l[i] = e at *
      obtain ⟨⟨e1, e2⟩, e3, e4, e5, e6, e7, e8⟩ := hme
      have n4 : (0 : Int) ≤ i := by omega
      have n5 : (i : Int) < l.length := by omega
      have w4 : IntKind.i64.wrap ((i : Int) + 1) = ((i + 1 : Nat) : Int) := by rw [wrap_id (by omega) (by omega)]; rfl
      simp only [go_sem, simprocAttr]
      unfold op20_45
      simp only [go_sem, simprocAttr, rowAt_get tg, n4, n5, x3]
      refine goodD_imm (rends_ok g e (by omega)) rfl ?_
      simp only [go_sem, simprocAttr, rowAt_get tg]
      have nb := ways_bound P g (l.take i) 0 ⟨by omega, by omega⟩
      rw [← mid.nn] at nb
      generalize hb : (g.ends e).2.1 = b at *
      refine (ih b e4.1 e4.2 e5 (by omega) τ k2 f2 m2 ik jf im d1 d2 d3 tk tf tm lk2 lf2 lm2 (fun v v0 v1 v2 v3 => mid.low v v0 v1 v2 (by omega))).mono ?_
      rintro r τ2 ⟨k3, f3, m3, uk, uf, um, lk3, lf3, lm3, post, ufr⟩
      obtain ⟨b1, b2⟩ := hc.bp b e4.1 e4.2 e5
      obtain ⟨b3, b4⟩ := hc.bf b e4.1 e4.2 e5
      obtain ⟨b5, b6⟩ := hc.bm b e4.1 e4.2 e5
      have dmild : at0 d b ≤ 1000000000000 := mild_at hm hdl e4.1 e4.2
      obtain ⟨p1, p2, p3⟩ := post.done
      obtain ⟨r1, r2, r3⟩ := post.keep node h0 h1 (by omega)
      have y1 := mem_at0 lk3 e4.1 e4.2
      have y2 := mem_at0 lf3 e4.1 e4.2
      have y3 := mem_at0 lm3 e4.1 e4.2
      have y4 := mem_at0 lf3 h0 h1
      have y5 := mem_at0 lm3 h0 h1
      rw [p1] at y1
      rw [p2] at y2
      rw [p3] at y3
      have l2 := lt_toNat e4.1 e4.2
      have w5 : IntKind.i64.wrap (n + P b) = n + P b := wrapS_add nb ⟨b1, b2⟩
      have w6 : IntKind.i64.wrap (F b + 1) = F b + 1 := mild_lt b4 dmild b3
      have w7 : IntKind.i64.wrap (M b + 1) = M b + 1 := mild_lt b6 dmild b5
      have eb := e4.1
      have i0 := nat_eq0 i
      simp only [go_sem, simprocAttr, eb, l2, rowAt_get uk, y1, w5]
      refine good_imm (cut_ok (n + P b) 0 1099511627776) rfl ?_
      have hcut : (if n + P b < 0 then 0 else if 1099511627776 < n + P b then 1099511627776 else n + P b) = cutS (n + P b) := rfl
      rw [hcut]
      have tgid : τ2.get gid = some (.row 0 false 2 [[.sc (.int .i64 g.n), .lst (g.ls.map Lk.row)]]) := ufr gid _ tg (fun e => q1 e.symm) (fun e => q2 e.symm) (fun e => q3 e.symm)
      have hnf : node.toNat < f3.length := toNat_lt' lf3 h0 h1
      have hnm : node.toNat < m3.length := toNat_lt' lm3 h0 h1
      have w4' : IntKind.i64.wrap ((i : Int) + 1) = ((i + 1 : Nat) : Int) := w4
      have frame : ∀ (τ4 : Store) (f4 m4 : List Int), τ4.get ik = some (.row 0 false 1 (ints k3)) → τ4.get jf = some (.row 0 false 1 (ints f4)) → τ4.get im = some (.row 0 false 1 (ints m4)) →
          (∀ j p, τ2.get j = some p → j ≠ ik → j ≠ jf → j ≠ im → τ4.get j = some p) → f4.length = f3.length → m4.length = m3.length →
          (at0 f4 node = if i = 0 ∨ F b + 1 < at0 f2 node then F b + 1 else at0 f2 node) → (at0 m4 node = if at0 m2 node < M b + 1 then M b + 1 else at0 m2 node) →
          (∀ v, 0 ≤ v → v ≠ node → at0 f4 v = at0 f3 v) → (∀ v, 0 ≤ v → v ≠ node → at0 m4 v = at0 m3 v) →
          Back I (l.length - i) [(1, .lst (bools down)), (2, .lst (ints d)), (3, .i node), (4, .sl ik 0 0 g.n.toNat 1), (5, .sl jf 0 0 g.n.toNat 1), (6, .sl im 0 0 g.n.toNat 1), (7, .ptr gid 0 0 0), (14, .i (cutS (n + P b))), (15, .lst (ints l)), (16, .i ((i + 1 : Nat) : Int))] τ4 := by
        intro τ4 f4 m4 z1 z2 z3 z4 z5 z6 z7 z8 z9 z10
        refine back_of (l.length - (i + 1)) (Nat.sub_lt_sub_left hil' (Nat.lt_succ_self i)) ⟨i + 1, cutS (n + P b), k3, f4, m4, hil', rfl, rfl, z1, z2, z3, z4 gid _ tgid (fun e => q1 e.symm) (fun e => q2 e.symm) (fun e => q3 e.symm), lk3, z5.trans lf3, z6.trans lm3, ?_, fun j p hj a b c => z4 j p (ufr j p (oth j p hj a b c) a b c) a b c⟩
        rw [htake]
        refine mid_step hc h0 h1 h2 mid post hb e4 e5 e6 e7 z7 z8 z9 z10 ?_
        rw [hflag, decide_eq_true_eq, hflag2]
      rw [r2] at y4
      rw [r3] at y5
      have gf3 : ∀ x v, 0 ≤ v → at0 (f3.set node.toNat x) v = if v = node then x else at0 f3 v := fun x v v0 => at0_set h0 hnf v0
      have gm3 : ∀ x v, 0 ≤ v → at0 (m3.set node.toNat x) v = if v = node then x else at0 m3 v := fun x v v0 => at0_set h0 hnm v0
      have rf : ∀ x, (ints f3).set node.toNat [AVal.sc (.int .i64 x)] = ints (f3.set node.toNat x) := fun x => (ints_set _ _ _).symm
      have rm : ∀ x, (ints m3).set node.toNat [AVal.sc (.int .i64 x)] = ints (m3.set node.toNat x) := fun x => (ints_set _ _ _).symm
      clear ih hinv hc hk1 others oth0 ep ef em hmem mid post hcut hflag hflag2 htake
      simp only [go_sem, simprocAttr]
      unfold op20_69
      simp only [go_sem, simprocAttr, i0]
      have zf9 : ∀ v, 0 ≤ v → v ≠ node → at0 (f3.set node.toNat (F b + 1)) v = at0 f3 v := fun v v0 hv => by rw [gf3 _ v v0, if_neg hv]
      have umx : ∀ o, Ab.rowAt (τ2.set jf o) im 0 = some (false, 1, ints m3) := fun o => by rw [rowAt_ne (fun e => d3 e.symm), rowAt_get um]
      by_cases hi1 : i = 0
      · simp only [go_sem, simprocAttr, hi1, eb, l2, rowAt_get uf, y2, w6, h0, l1, y4, rf]
        have zf7 : at0 (f3.set node.toNat (F b + 1)) node = if i = 0 ∨ F b + 1 < at0 f2 node then F b + 1 else at0 f2 node := by rw [gf3 _ node h0, if_pos rfl, if_pos (.inl hi1)]
        rw [hi1] at w4 zf7 frame
        unfold op20_91
        simp only [go_sem, simprocAttr, eb, l2, umx, y3, w7, h0, l1, y5]
        by_cases hm0 : at0 m2 node < M b + 1
        · simp only [go_sem, simprocAttr, hm0, eb, l2, umx, y3, w7, h0, l1, y5, rm, w4]
          refine frame _ (f3.set node.toNat (F b + 1)) (m3.set node.toNat (M b + 1)) ?_ ?_ ?_ ?_ ?_ (by simp) zf7 ?_ zf9 ?_
          · rw [Store.get_set_ne _ _ d2, Store.get_set_ne _ _ d1, uk]
          · rw [Store.get_set_ne _ _ d3, Store.get_set_self]
          · rw [Store.get_set_self]
          · intro j p hj a b c; rw [Store.get_set_ne _ _ c, Store.get_set_ne _ _ b]; exact hj
          · simp
          · rw [gm3 _ node h0, if_pos rfl, if_pos hm0]
          · intro v v0 hv; rw [gm3 _ v v0, if_neg hv]
        · simp only [go_sem, simprocAttr, hm0, w4]
          refine frame _ (f3.set node.toNat (F b + 1)) m3 (by rw [Store.get_set_ne _ _ d1, uk]) (by rw [Store.get_set_self]) (by rw [Store.get_set_ne _ _ (fun e => d3 e.symm), um]) ?_ (by simp) rfl zf7 ?_ zf9 (fun _ _ _ => rfl)
          · intro j p hj a b c; rw [Store.get_set_ne _ _ b]; exact hj
          · rw [r3, if_neg hm0]
      by_cases hi2 : F b + 1 < at0 f2 node
      · simp only [go_sem, simprocAttr, hi1, eb, l2, rowAt_get uf, y2, w6, h0, l1, y4, hi2, rf]
        have zf7 : at0 (f3.set node.toNat (F b + 1)) node = if i = 0 ∨ F b + 1 < at0 f2 node then F b + 1 else at0 f2 node := by rw [gf3 _ node h0, if_pos rfl, if_pos (.inr hi2)]
        unfold op20_91
        simp only [go_sem, simprocAttr, eb, l2, umx, y3, w7, h0, l1, y5]
        by_cases hm0 : at0 m2 node < M b + 1
        · simp only [go_sem, simprocAttr, hm0, eb, l2, umx, y3, w7, h0, l1, y5, rm, w4]
          refine frame _ (f3.set node.toNat (F b + 1)) (m3.set node.toNat (M b + 1)) ?_ ?_ ?_ ?_ ?_ (by simp) zf7 ?_ zf9 ?_
          · rw [Store.get_set_ne _ _ d2, Store.get_set_ne _ _ d1, uk]
          · rw [Store.get_set_ne _ _ d3, Store.get_set_self]
          · rw [Store.get_set_self]
          · intro j p hj a b c; rw [Store.get_set_ne _ _ c, Store.get_set_ne _ _ b]; exact hj
          · simp
          · rw [gm3 _ node h0, if_pos rfl, if_pos hm0]
          · intro v v0 hv; rw [gm3 _ v v0, if_neg hv]
        · simp only [go_sem, simprocAttr, hm0, w4]
          refine frame _ (f3.set node.toNat (F b + 1)) m3 (by rw [Store.get_set_ne _ _ d1, uk]) (by rw [Store.get_set_self]) (by rw [Store.get_set_ne _ _ (fun e => d3 e.symm), um]) ?_ (by simp) rfl zf7 ?_ zf9 (fun _ _ _ => rfl)
          · intro j p hj a b c; rw [Store.get_set_ne _ _ b]; exact hj
          · rw [r3, if_neg hm0]
      · simp only [go_sem, simprocAttr, hi1, eb, l2, rowAt_get uf, y2, w6, h0, l1, y4, hi2]
        have zf7 : at0 f3 node = if i = 0 ∨ F b + 1 < at0 f2 node then F b + 1 else at0 f2 node := by rw [r2, if_neg (fun h => h.elim hi1 hi2)]
        unfold op20_91
        simp only [go_sem, simprocAttr, eb, l2, rowAt_get um, y3, w7, h0, l1, y5]
        by_cases hm0 : at0 m2 node < M b + 1
        · simp only [go_sem, simprocAttr, hm0, eb, l2, rowAt_get um, y3, w7, h0, l1, y5, rm, w4]
          refine frame _ f3 (m3.set node.toNat (M b + 1)) ?_ ?_ ?_ ?_ ?_ (by simp) zf7 ?_ (fun _ _ _ => rfl) ?_
          · rw [Store.get_set_ne _ _ d2, uk]
          · rw [Store.get_set_ne _ _ d3, uf]
          · rw [Store.get_set_self]
          · intro j p hj a b c; rw [Store.get_set_ne _ _ c]; exact hj
          · simp
          · rw [gm3 _ node h0, if_pos rfl, if_pos hm0]
          · intro v v0 hv; rw [gm3 _ v v0, if_neg hv]
        · simp only [go_sem, simprocAttr, hm0, w4]
          refine frame _ f3 m3 uk uf um (fun _ _ h _ _ _ => h) rfl rfl zf7 ?_ (fun _ _ _ => rfl) (fun _ _ _ => rfl)
          · rw [r3, if_neg hm0]
    · have e : i = l.length := by omega
      subst e
      rw [List.take_length] at mid
      have y1 := mem_at0 lk2 h0 h1
      simp only [go_sem, simprocAttr, h0, l1, rowAt_get tk, y1]
      have hrow : (ints k2).set node.toNat [AVal.sc (.int .i64 n)] = ints (k2.set node.toNat n) := (ints_set _ _ _).symm
      rw [hrow]
      have hnk2 : node.toNat < k2.length := by omega
      have kget : ∀ v, 0 ≤ v → at0 (k2.set node.toNat n) v = if v = node then n else at0 k2 v := fun v v0 => at0_set h0 hnk2 v0
      have hn : n = P node := by rw [mid.nn, ep]
      have hfn : at0 f2 node = F node := by rw [mid.fn, ef]
      have hmn : at0 m2 node = M node := by rw [mid.mn, em]
      refine ⟨k2.set node.toNat n, f2, m2, by simp, by rw [Store.get_set_ne _ _ (fun e => d1 e.symm), tf], by rw [Store.get_set_ne _ _ (fun e => d2 e.symm), tm], by simpa using lk2, lf2, lm2, ⟨fun v v0 v1 v2 v3 => ?_, ⟨?_, hfn, hmn⟩, fun v v0 v1 v2 => ?_, fun v v0 v1 v2 v3 hp => ?_⟩, others _ _ oth⟩
      · rw [kget v v0]
        split
        · rename_i e; subst e; exact .inr ⟨hn, hfn, hmn⟩
        · rename_i e
          by_cases hv : at0 d v ≤ at0 d node - 1
          · exact mid.low v v0 v1 v2 hv
          · obtain ⟨s1, s2, s3⟩ := mid.high v v0 v1 (fun h => hv h.2) e
            rw [s1, s2, s3]
            exact hinv v v0 v1 v2 v3
      · rw [kget node h0, if_pos rfl]; exact hn
      · have e : v ≠ node := fun e => v2 (by rw [e]; exact ⟨h2, Int.le_refl _⟩)
        rw [kget v v0, if_neg e]
        exact mid.high v v0 v1 (fun h => v2 ⟨h.1, by omega⟩) e
      · rw [kget v v0]
        split
        · rename_i e; subst e; exact ⟨hn, hfn, hmn⟩
        · rename_i e
          by_cases hv : at0 d v ≤ at0 d node - 1
          · exact mid.stay v v0 v1 v2 hv hp
          · obtain ⟨s1, s2, s3⟩ := mid.high v v0 v1 (fun h => hv h.2) e
            rw [s1, s2, s3]
            rcases hinv v v0 v1 v2 v3 with h | h
            · have := (hc.bp v v0 v1 v2).1; omega
            · exact h
end Go.Proofs

set_option linter.unusedSimpArgs false
set_option linter.unusedVariables false
namespace Go.Proofs
open Go.Ab

def cnt (g : Gr) (down : List Bool) (d : List Int) : Nat → Int → Int × Int × Int
  | 0, _ => (1, 0, 0)
  | N + 1, v => if at0 d v ≤ 0 then (1, 0, 0) else
      ((nextOf g down d v).foldl (waysStep (fun u => (cnt g down d N u).1) g) 0, ((nextOf g down d v).foldl (fewStep (fun u => (cnt g down d N u).2.1) g) (true, 0)).2, (nextOf g down d v).foldl (manyStep (fun u => (cnt g down d N u).2.2) g) 0)

theorem foldl_congr' {α β : Type} {f h : β → α → β} : ∀ {l : List α} {b : β}, (∀ b, ∀ a ∈ l, f b a = h b a) → l.foldl f b = l.foldl h b
  | [], b, _ => rfl
  | a :: r, b, e => by rw [List.foldl_cons, List.foldl_cons, e b a (by simp)]; exact foldl_congr' fun b a ha => e b a (by simp [ha])

theorem cnt_fuel {g : Gr} (hg : g.Ok) {down : List Bool} {d : List Int} : ∀ (k N M : Nat) (v : Int), (at0 d v).toNat ≤ k → k ≤ N → k ≤ M → (cnt g down d N v) = (cnt g down d M v) := by
  intro k
  induction k with
  | zero =>
    intro N M v hv _ _
    have h : at0 d v ≤ 0 := by omega
    have key : ∀ N, cnt g down d N v = (1, 0, 0) := fun N => by
      cases N with
      | zero => rfl
      | succ N => unfold cnt; rw [if_pos h]
    rw [key N, key M]
  | succ k ih =>
    intro N M v hv hN hM
    obtain ⟨N, rfl⟩ : ∃ n, N = n + 1 := ⟨N - 1, by omega⟩
    obtain ⟨M, rfl⟩ : ∃ n, M = n + 1 := ⟨M - 1, by omega⟩
    unfold cnt
    by_cases h : at0 d v ≤ 0
    · rw [if_pos h, if_pos h]
    · rw [if_neg h, if_neg h]
      have key : ∀ e ∈ nextOf g down d v, cnt g down d N (g.ends e).2.1 = cnt g down d M (g.ends e).2.1 := fun e he => by
        obtain ⟨_, _, _, e5, e6, e7, _⟩ := nextOf_mem hg he
        exact ih N M _ (by omega) (by omega) (by omega)
      congr 1
      · exact foldl_congr' fun b a ha => by simp only [waysStep, key a ha]
      · congr 1
        · exact congrArg Prod.snd (foldl_congr' fun b a ha => by simp only [fewStep, key a ha])
        · exact foldl_congr' fun b a ha => by simp only [manyStep, key a ha]

def cntOf (g : Gr) (down : List Bool) (d : List Int) (v : Int) : Int × Int × Int := cnt g down d (at0 d v).toNat v
def cP (g : Gr) (down : List Bool) (d : List Int) (v : Int) : Int := (cntOf g down d v).1
def cF (g : Gr) (down : List Bool) (d : List Int) (v : Int) : Int := (cntOf g down d v).2.1
def cM (g : Gr) (down : List Bool) (d : List Int) (v : Int) : Int := (cntOf g down d v).2.2

theorem cntOf_zero {g : Gr} {down : List Bool} {d : List Int} {v : Int} (h : at0 d v ≤ 0) : cntOf g down d v = (1, 0, 0) := by
  unfold cntOf
  rw [show (at0 d v).toNat = 0 by omega]
  rfl
theorem cntOf_step {g : Gr} (hg : g.Ok) {down : List Bool} {d : List Int} {v : Int} (h : 0 < at0 d v) : cntOf g down d v =
    ((nextOf g down d v).foldl (waysStep (cP g down d) g) 0, ((nextOf g down d v).foldl (fewStep (cF g down d) g) (true, 0)).2, (nextOf g down d v).foldl (manyStep (cM g down d) g) 0) := by
  have e : cntOf g down d v = cnt g down d ((at0 d v).toNat - 1 + 1) v := by unfold cntOf; rw [show (at0 d v).toNat - 1 + 1 = (at0 d v).toNat by omega]
  rw [e]
  unfold cnt
  rw [if_neg (by omega)]
  have key : ∀ e ∈ nextOf g down d v, cnt g down d ((at0 d v).toNat - 1) (g.ends e).2.1 = cntOf g down d (g.ends e).2.1 := fun e he => by
    obtain ⟨_, _, _, e5, e6, e7, _⟩ := nextOf_mem hg he
    exact cnt_fuel hg _ _ _ _ (Nat.le_refl _) (by omega) (Nat.le_refl _)
  congr 1
  · exact foldl_congr' fun b a ha => by simp only [waysStep, key a ha, cP]
  · congr 1
    · exact congrArg Prod.snd (foldl_congr' fun b a ha => by simp only [fewStep, key a ha]; rfl)
    · exact foldl_congr' fun b a ha => by simp only [manyStep, key a ha]; rfl

theorem few_bound {F : Int → Int} {g : Gr} {D : Int} (hD : 0 ≤ D) : ∀ (l : List Int) (s : Bool × Int), (∀ e ∈ l, 0 ≤ F (g.ends e).2.1 ∧ F (g.ends e).2.1 + 1 ≤ D) → 0 ≤ s.2 ∧ s.2 ≤ D → 0 ≤ (l.foldl (fewStep F g) s).2 ∧ (l.foldl (fewStep F g) s).2 ≤ D
  | [], s, _, h => h
  | e :: r, s, hl, h => by
    rw [List.foldl_cons]
    refine few_bound hD r _ (fun x hx => hl x (by simp [hx])) ?_
    have := hl e (by simp)
    unfold fewStep
    simp only
    split <;> omega
theorem many_bound {M : Int → Int} {g : Gr} {D : Int} (hD : 0 ≤ D) : ∀ (l : List Int) (s : Int), (∀ e ∈ l, 0 ≤ M (g.ends e).2.1 ∧ M (g.ends e).2.1 + 1 ≤ D) → 0 ≤ s ∧ s ≤ D → 0 ≤ (l.foldl (manyStep M g) s) ∧ (l.foldl (manyStep M g) s) ≤ D
  | [], s, _, h => h
  | e :: r, s, hl, h => by
    rw [List.foldl_cons]
    refine many_bound hD r _ (fun x hx => hl x (by simp [hx])) ?_
    have := hl e (by simp)
    unfold manyStep
    split <;> omega
theorem cnt_bound {g : Gr} (hg : g.Ok) {down : List Bool} {d : List Int} : ∀ (k : Nat) (v : Int), (at0 d v).toNat ≤ k → 0 ≤ at0 d v →
    (0 ≤ cP g down d v ∧ cP g down d v ≤ 1099511627776) ∧ (0 ≤ cF g down d v ∧ cF g down d v ≤ at0 d v) ∧ (0 ≤ cM g down d v ∧ cM g down d v ≤ at0 d v) := by
  intro k
  induction k with
  | zero =>
    intro v hv h0
    have := cntOf_zero (g := g) (down := down) (d := d) (v := v) (by omega)
    unfold cP cF cM
    rw [this]
    simp
    exact h0
  | succ k ih =>
    intro v hv h0
    by_cases h : at0 d v ≤ 0
    · have := cntOf_zero (g := g) (down := down) h
      unfold cP cF cM
      rw [this]
      simp
      exact h0
    · have e := cntOf_step hg (down := down) (d := d) (v := v) (by omega)
      have key : ∀ e ∈ nextOf g down d v, (0 ≤ cF g down d (g.ends e).2.1 ∧ cF g down d (g.ends e).2.1 + 1 ≤ at0 d v) ∧ (0 ≤ cM g down d (g.ends e).2.1 ∧ cM g down d (g.ends e).2.1 + 1 ≤ at0 d v) := fun e he => by
        obtain ⟨_, _, _, e5, e6, e7, _⟩ := nextOf_mem hg he
        obtain ⟨_, h2, h3⟩ := ih (g.ends e).2.1 (by omega) e5
        omega
      refine ⟨?_, ?_, ?_⟩
      · have : cP g down d v = (nextOf g down d v).foldl (waysStep (cP g down d) g) 0 := by conv => lhs; unfold cP; rw [e]
        rw [this]
        exact ways_bound _ g _ 0 ⟨by omega, by omega⟩
      · have : cF g down d v = ((nextOf g down d v).foldl (fewStep (cF g down d) g) (true, 0)).2 := by conv => lhs; unfold cF; rw [e]
        rw [this]
        exact few_bound h0 _ _ (fun e he => (key e he).1) ⟨Int.le_refl _, h0⟩
      · have : cM g down d v = (nextOf g down d v).foldl (manyStep (cM g down d) g) 0 := by conv => lhs; unfold cM; rw [e]
        rw [this]
        exact many_bound h0 _ _ (fun e he => (key e he).2) ⟨Int.le_refl _, h0⟩

theorem isCnt {g : Gr} (hg : g.Ok) (down : List Bool) (d : List Int) : IsCnt g down d (cP g down d) (cF g down d) (cM g down d) where
  zero := fun v _ _ h => by
    have := cntOf_zero (g := g) (down := down) (d := d) (v := v) (by omega)
    unfold cP cF cM
    rw [this]
    exact ⟨rfl, rfl, rfl⟩
  p := fun v _ _ h => by conv => lhs; unfold cP; rw [cntOf_step hg h]
  f := fun v _ _ h => by conv => lhs; unfold cF; rw [cntOf_step hg h]
  m := fun v _ _ h => by conv => lhs; unfold cM; rw [cntOf_step hg h]
  bp := fun v _ _ h => (cnt_bound hg _ v (Nat.le_refl _) h).1
  bf := fun v _ _ h => (cnt_bound hg _ v (Nat.le_refl _) h).2.1
  bm := fun v _ _ h => (cnt_bound hg _ v (Nat.le_refl _) h).2.2
end Go.Proofs

set_option linter.unusedSimpArgs false
set_option linter.unusedVariables false
namespace Go.Proofs
open Go.Ab

def waysOf (g : Gr) (down : List Bool) (from_ to : Int) : Int × Int × Int × Bool :=
  if refFrom g down to ≠ [] ∧ (0 ≤ from_ ∧ from_ < g.n) ∧ 0 ≤ at0 (refFrom g down to) from_ then
    (cP g down (refFrom g down to) from_, cF g down (refFrom g down to) from_, cM g down (refFrom g down to) from_, true) else (0, 0, 0, false)

theorem out_tup4 {σ : Store} {m : Nat} {a b c d e f g h : AVal} (h1 : Out m σ a e) (h2 : Out m σ b f) (h3 : Out m σ c g) (h4 : Out m σ d h) : Out (m + 1) σ (.tup [a, b, c, d]) (.tup [e, f, g, h]) := by
  obtain ⟨y, h1, h1'⟩ := h1
  obtain ⟨z, h2, h2'⟩ := h2
  obtain ⟨u, h3, h3'⟩ := h3
  obtain ⟨t, h4, h4'⟩ := h4
  refine ⟨.tup [y, z, u, t], by simp [snap, mapO, h1, h2, h3, h4], sub_tup rfl fun i x y hx hy => ?_⟩
  match i with
  | 0 => simp at hx hy; subst hx hy; exact h1'
  | 1 => simp at hx hy; subst hx hy; exact h2'
  | 2 => simp at hx hy; subst hx hy; exact h3'
  | 3 => simp at hx hy; subst hx hy; exact h4'
  | i + 4 => simp at hx

theorem fill_step {n i : Nat} (hi : i < n) (x y : Int) : (List.replicate i x ++ List.replicate (n - i) y).set i x = List.replicate (i + 1) x ++ List.replicate (n - (i + 1)) y := by
  rw [List.set_append_right _ _ (by simp), List.replicate_succ', List.length_replicate, Nat.sub_self]
  obtain ⟨k, hk⟩ : ∃ k, n - i = k + 1 := ⟨n - i - 1, by omega⟩
  rw [hk, show n - (i + 1) = k by omega, List.replicate_succ]
  simp

theorem ref_ways_ok (g : Gr) (down : List Bool) (from_ to : Int) : PGood Try.prog 8 [g.val, .lst (bools down), .i from_, .i to] (.tup [.i (waysOf g down from_ to).1, .i (waysOf g down from_ to).2.1, .i (waysOf g down from_ to).2.2.1, .b (waysOf g down from_ to).2.2.2]) := by
  refine pgood_of_out 2 (good_of_wp isF8 (Nat.le_refl _) ?_)
  unfold ac8
  simp only [go_sem, simprocAttr, Gr.val]
  intro gid hgid
  simp only [go_sem, simprocAttr]
  refine good_imm (ref_from_ok g down to) rfl ?_
  have bmild : ∀ x ∈ refFrom g down to, -1 ≤ x ∧ x ≤ 671088640 := refFrom_mild
  have bnil := refFrom_nil (g := g) (down := down) (node := to)
  have hdef : waysOf g down from_ to = if refFrom g down to ≠ [] ∧ (0 ≤ from_ ∧ from_ < g.n) ∧ 0 ≤ at0 (refFrom g down to) from_ then
    (cP g down (refFrom g down to) from_, cF g down (refFrom g down to) from_, cM g down (refFrom g down to) from_, true) else (0, 0, 0, false) := rfl
  have blen : g.check.2 = 0 ∧ 0 ≤ to ∧ to < g.n → (refFrom g down to).length = g.n.toNat := fun h => (refFrom_dist (g.check_ok.1 h.1) h.2).len
  generalize refFrom g down to = b at *
  have nil : ¬ (b ≠ [] ∧ (0 ≤ from_ ∧ from_ < g.n) ∧ 0 ≤ at0 b from_) → ∀ σ : Store, Out 2 σ (.tup [.i 0, .i 0, .i 0, .b false]) (.tup [.i (waysOf g down from_ to).1, .i (waysOf g down from_ to).2.1, .i (waysOf g down from_ to).2.2.1, .b (waysOf g down from_ to).2.2.2]) := fun h σ => by
    rw [hdef, if_neg h]; exact out_tup4 out_sc out_sc out_sc out_sc
  simp only [go_sem, simprocAttr]
  by_cases hb : b = []
  · have h0 : (b.length : Int) = 0 := by rw [hb]; rfl
    simp only [go_sem, simprocAttr, h0]
    exact nil (fun h => h.1 hb) _
  have h0 : ¬ (b.length : Int) = 0 := fun h => hb (List.eq_nil_of_length_eq_zero (by omega))
  simp only [go_sem, simprocAttr, h0]
  refine good_imm (node_ok g.n (.lst (g.ls.map Lk.row)) from_) rfl ?_
  simp only [go_sem, simprocAttr]
  by_cases hn : 0 ≤ from_ ∧ from_ < g.n
  case neg =>
    simp only [go_sem, simprocAttr, hn]
    exact nil (fun h => hn h.2.1) _
  have gb : g.check.2 = 0 ∧ 0 ≤ to ∧ to < g.n := Decidable.byContradiction fun h => hb (bnil.2 h)
  have bl := blen gb
  obtain ⟨k1, k2, k3, k4⟩ := g.check_ok.1 gb.1
  have hok : g.Ok := ⟨k1, k2, k3, k4⟩
  have hti : from_.toNat < b.length := by omega
  have n1 : from_ < (b.length : Int) := by omega
  have x1 : (ints b)[from_.toNat]? = some [.sc (.int .i64 (at0 b from_))] := ints_get (by simp [hti])
  have n0 := hn.1
  simp only [go_sem, simprocAttr, hn, n0, n1, x1]
  by_cases hneg : at0 b from_ < 0
  · simp only [go_sem, simprocAttr, hneg]
    exact nil (fun h => by omega) _
  have p1 : (0 : Int) ≤ g.n := by omega
  have p2 : g.n ≤ 9223372036854775807 := by omega
  have p3 : g.n.toNat * 8 ≤ 281474976710656 := by omega
  simp only [go_sem, simprocAttr, hneg, p1, p2, p3]
  intro aid haid
  simp only [go_sem, simprocAttr, rowAt_fresh haid]
  have e1 : gid ≠ aid := fun e => by rw [← e] at haid; simp at haid
  simp only [go_sem, simprocAttr, p1, p2, p3]
  intro fid hfid
  have e2 : gid ≠ fid := fun e => by rw [← e, Store.get_set_ne _ _ e1] at hfid; simp at hfid
  have e3 : aid ≠ fid := fun e => by rw [← e] at hfid; simp at hfid
  simp only [go_sem, simprocAttr, rowAt_fresh hfid, rowAt_fresh haid]
  simp only [go_sem, simprocAttr, p1, p2, p3]
  intro mid hmid
  have e4 : gid ≠ mid := fun e => by rw [← e, Store.get_set_ne _ _ e2, Store.get_set_ne _ _ e1] at hmid; simp at hmid
  have e5 : aid ≠ mid := fun e => by rw [← e, Store.get_set_ne _ _ e3] at hmid; simp at hmid
  have e6 : fid ≠ mid := fun e => by rw [← e] at hmid; simp at hmid
  simp only [go_sem, simprocAttr]
  have hz : List.replicate g.n.toNat [AVal.sc (.int .i64 0)] = ints (List.replicate g.n.toNat 0) := (ints_rep _ _).symm
  rw [hz]
  refine loop_rule (fun m fr σ => ∃ (i : Nat), i ≤ g.n.toNat ∧ m = g.n.toNat - i ∧ fr = [(1, .lst (bools down)), (2, .i from_), (4, .ptr gid 0 0 0), (12, .lst (ints b)), (13, .sl aid 0 0 g.n.toNat 1), (14, .sl fid 0 0 g.n.toNat 1), (15, .sl mid 0 0 g.n.toNat 1), (16, .i i)] ∧
    σ.get aid = some (.row 0 false 1 (ints (List.replicate i (-1) ++ List.replicate (g.n.toNat - i) 0))) ∧ σ.get fid = some (.row 0 false 1 (ints (List.replicate g.n.toNat 0))) ∧ σ.get mid = some (.row 0 false 1 (ints (List.replicate g.n.toNat 0))) ∧
    σ.get gid = some (.row 0 false 2 [[.sc (.int .i64 g.n), .lst (g.ls.map Lk.row)]])) g.n.toNat
    ⟨0, by omega, by omega, rfl, ?_, ?_, ?_, ?_⟩ ?_
  · rw [Store.get_set_ne _ _ e5, Store.get_set_ne _ _ e3, Store.get_set_self]; simp
  · rw [Store.get_set_ne _ _ e6, Store.get_set_self]
  · rw [Store.get_set_self]
  · rw [Store.get_set_ne _ _ e4, Store.get_set_ne _ _ e2, Store.get_set_ne _ _ e1, Store.get_set_self]
  rintro m fr σ ⟨i, h1, rfl, rfl, ga, gf, gm, gg⟩
  simp only [go_sem, simprocAttr, rowAt_get gg]
  refine .intro (fun h => ?_) (fun h => ?_)
  · have hlen : (List.replicate i (-1 : Int) ++ List.replicate (g.n.toNat - i) 0).length = g.n.toNat := by simp; omega
    have hi : i < (List.replicate i (-1 : Int) ++ List.replicate (g.n.toNat - i) 0).length := by omega
    have x2 := ints_get (List.getElem?_eq_getElem hi)
    have n4 : (0 : Int) ≤ i := by omega
    have n5 : (i : Int) < g.n.toNat := by omega
    have w1 : IntKind.i64.wrap ((i : Int) + 1) = ((i + 1 : Nat) : Int) := by rw [wrap_id (by omega) (by omega)]; rfl
    simp only [go_sem, simprocAttr, n4, n5, rowAt_get ga, x2, w1]
    refine back_of _ ?_ ⟨i + 1, by omega, rfl, rfl, ?_, ?_, ?_, ?_⟩
    · omega
    · rw [Store.get_set_self, ← fill_step (by omega), ints_set]
    · rw [Store.get_set_ne _ _ (fun e => e3 e.symm), gf]
    · rw [Store.get_set_ne _ _ (fun e => e5 e.symm), gm]
    · rw [Store.get_set_ne _ _ e1, gg]
  · simp only [go_sem, simprocAttr]
    have e : i = g.n.toNat := by omega
    subst e
    rw [Nat.sub_self, List.replicate_zero, List.append_nil] at ga
    simp only [go_sem, simprocAttr, rowAt_get gg]
    have hge : 0 ≤ at0 b from_ := by omega
    have hmild : Mild b := fun x hx => ⟨(bmild x hx).1, by have := (bmild x hx).2; omega⟩
    have ini : CntInv g b (cP g down b) (cF g down b) (cM g down b) (at0 b from_) (List.replicate g.n.toNat (-1)) (List.replicate g.n.toNat 0) (List.replicate g.n.toNat 0) := fun v v0 v1 _ _ => by
      have : v.toNat < g.n.toNat := by omega
      refine .inl ⟨?_, ?_, ?_⟩ <;> simp [this]
    refine (counts_ok g hok down b bl hmild _ _ _ (isCnt hok down b) ((at0 b from_).toNat + 1) from_ hn.1 hn.2 hge (by omega) σ _ _ _ aid fid mid e3 e5 e6 ga gf gm (by simp) (by simp) (by simp) ini).mono ?_
    rintro r τ ⟨k', f', m', tk, tf, tm, lk, lf, lm, post, oth⟩
    obtain ⟨q1, q2, q3⟩ := post.done
    have y1 := mem_at0 lk hn.1 hn.2
    have y2 := mem_at0 lf hn.1 hn.2
    have y3 := mem_at0 lm hn.1 hn.2
    have n6 : from_ < (g.n.toNat : Int) := by omega
    rw [q1] at y1
    rw [q2] at y2
    rw [q3] at y3
    simp only [go_sem, simprocAttr]
    unfold op8_63
    simp only [go_sem, simprocAttr, n0, n6, rowAt_get tk, rowAt_get tf, rowAt_get tm, y1, y2, y3]
    rw [hdef, if_pos ⟨hb, hn, hge⟩]
    exact out_tup4 out_sc out_sc out_sc out_sc
end Go.Proofs

set_option linter.unusedSimpArgs false
set_option linter.unusedVariables false
namespace Go.Proofs
open Go.Ab

theorem isnan_ok (n : Int) : PGood Try.prog 39 [.i n] (.b false) := by
  refine pgood_of_out 1 (good_of_wp isF39 (Nat.le_refl _) ?_)
  unfold ac39
  simp only [go_sem, simprocAttr]
  exact out_sc
def cmpI (x y : Int) : Int := if x < y then -1 else if y < x then 1 else 0
theorem cmp_ok (x y : Int) : PGood Try.prog 30 [.i x, .i y] (.i (cmpI x y)) := by
  refine pgood_of_out 1 (good_of_wp isF30 (Nat.le_refl _) ?_)
  unfold ac30
  simp only [go_sem, simprocAttr]
  refine good_imm (isnan_ok x) rfl ?_
  simp only [go_sem, simprocAttr]
  refine good_imm (isnan_ok y) rfl ?_
  simp only [go_sem, simprocAttr]
  unfold cmpI
  refine .intro (fun h => ?_) (fun h => ?_)
  · simp only [go_sem, simprocAttr]
    rw [if_pos h]; exact out_sc
  · simp only [go_sem, simprocAttr]
    rw [if_neg h]
    refine .intro (fun h2 => ?_) (fun h2 => ?_)
    · simp only [go_sem, simprocAttr]
      rw [if_pos h2]; exact out_sc
    · simp only [go_sem, simprocAttr]
      rw [if_neg h2]; exact out_sc
theorem find1_ok (far : List Int) (x y : Int) (hx : 0 ≤ x ∧ x < far.length) (hy : 0 ≤ y ∧ y < far.length) : PGood Try.prog 29 [.i x, .i y, .iptr [.lst (ints far)] 0] (.i (cmpI (at0 far y) (at0 far x))) := by
  refine pgood_of_out 1 (good_of_wp isF29 (Nat.le_refl _) ?_)
  unfold ac29
  obtain ⟨x0, x1⟩ := hx
  obtain ⟨y0, y1⟩ := hy
  have hxi : x.toNat < far.length := by omega
  have hyi : y.toNat < far.length := by omega
  have e1 : (ints far)[x.toNat]? = some [.sc (.int .i64 (at0 far x))] := ints_get (by simp [hxi])
  have e2 : (ints far)[y.toNat]? = some [.sc (.int .i64 (at0 far y))] := ints_get (by simp [hyi])
  simp only [go_sem, simprocAttr]
  unfold op29_6
  simp only [go_sem, simprocAttr, x0, x1, y0, y1, e1, e2]
  refine goodD_imm (cmp_ok _ _) rfl ?_
  simp only [go_sem, simprocAttr]
  exact out_sc
end Go.Proofs

set_option linter.unusedSimpArgs false
set_option linter.unusedVariables false
namespace Go.Proofs
open Go.Ab

/-! ### What dag.find finds -/
def enq (g : Gr) (s : List Bool × List Int) (e : Int) : List Bool × List Int :=
  if s.1.getD (g.ends e).2.1.toNat true then s else (s.1.set (g.ends e).2.1.toNat true, s.2 ++ [(g.ends e).2.1])
def visit (g : Gr) (nx : Int → List Int) : Nat → List Bool → List Int → List Int → List Int
  | 0, _, _, nodes => nodes
  | f + 1, seen, work, nodes => match work with
    | [] => nodes
    | at_ :: rest => visit g nx f ((nx at_).foldl (enq g) (seen, at_ :: rest)).1 ((nx at_).foldl (enq g) (seen, at_ :: rest)).2.tail (nodes ++ [at_])
def unseen (seen : List Bool) : Nat := seen.count false
def nodesOf (g : Gr) (nx : Int → List Int) (from_ : Int) : List Int := visit g nx g.n.toNat ((List.replicate g.n.toNat false).set from_.toNat true) [from_] []
def nextRows (nx : Int → List Int) (nodes : List Int) (n : Nat) : List (List AVal) := (List.range n).map fun (i : Nat) => [if (i : Int) ∈ nodes then .lst (ints (nx i)) else .nils]

theorem unseen_set {seen : List Bool} {i : Nat} (hi : i < seen.length) (h : seen.getD i true = false) : unseen (seen.set i true) + 1 = unseen seen := by
  unfold unseen
  have h' : seen[i] = false := by simpa [hi] using h
  have : 0 < seen.count false := List.count_pos_iff.2 (h' ▸ List.getElem_mem hi)
  rw [List.count_set hi]
  simp [h']
  omega
structure EnqInv (g : Gr) (s0 s : List Bool × List Int) : Prop where
  len : s.1.length = s0.1.length
  mea : unseen s.1 + s.2.length = unseen s0.1 + s0.2.length
  pre : ∃ r, s.2 = s0.2 ++ r
  rng : ∀ x ∈ s.2, x ∈ s0.2 ∨ (0 ≤ x ∧ x < g.n)
theorem enq_inv {g : Gr} {s0 s : List Bool × List Int} (h : EnqInv g s0 s) (hl : s0.1.length = g.n.toNat) {e : Int} (he : 0 ≤ (g.ends e).2.1 ∧ (g.ends e).2.1 < g.n) : EnqInv g s0 (enq g s e) := by
  unfold enq
  have hlt : (g.ends e).2.1.toNat < s.1.length := by rw [h.len, hl]; omega
  split
  · exact h
  · rename_i hs
    have hs' : s.1.getD (g.ends e).2.1.toNat true = false := by simpa using hs
    have := unseen_set hlt hs'
    obtain ⟨r, hr⟩ := h.pre
    refine ⟨by simpa using h.len, ?_, ⟨r ++ [(g.ends e).2.1], by simp [hr]⟩, fun x hx => ?_⟩
    · have := h.mea; simp only [List.length_append, List.length_cons, List.length_nil]; omega
    · rcases List.mem_append.1 hx with hx | hx
      · exact h.rng x hx
      · have : x = (g.ends e).2.1 := by simpa using hx
        rw [this]; exact .inr he
theorem enqs_inv {g : Gr} : ∀ (l : List Int) {s0 s : List Bool × List Int}, EnqInv g s0 s → s0.1.length = g.n.toNat → (∀ e ∈ l, 0 ≤ (g.ends e).2.1 ∧ (g.ends e).2.1 < g.n) → EnqInv g s0 (l.foldl (enq g) s)
  | [], _, _, h, _, _ => h
  | e :: r, s0, s, h, hl, hr => by
    rw [List.foldl_cons]
    exact enqs_inv r (enq_inv h hl (hr e (by simp))) hl fun x hx => hr x (by simp [hx])

theorem nextRows_len (nx : Int → List Int) (nodes : List Int) (n : Nat) : (nextRows nx nodes n).length = n := by simp [nextRows]
theorem nextRows_get (nx : Int → List Int) (nodes : List Int) {n : Nat} {x : Int} (h0 : 0 ≤ x) (h1 : x.toNat < n) : (nextRows nx nodes n)[x.toNat]? = some [if x ∈ nodes then .lst (ints (nx x)) else .nils] := by
  unfold nextRows
  rw [List.getElem?_map, List.getElem?_range h1]
  have : ((x.toNat : Nat) : Int) = x := by omega
  simp [this]
theorem nextRows_set (nx : Int → List Int) (nodes : List Int) {n : Nat} {x : Int} (h0 : 0 ≤ x) (h1 : x.toNat < n) : (nextRows nx nodes n).set x.toNat [.lst (ints (nx x))] = nextRows nx (nodes ++ [x]) n := by
  refine List.ext_getElem (by simp [nextRows]) fun i h2 h3 => ?_
  have hi : i < n := by simpa [nextRows] using h3
  rw [List.getElem_set]
  split
  · rename_i e
    subst e
    have : ((x.toNat : Nat) : Int) = x := by omega
    simp [nextRows, this]
  · rename_i e
    have hne : ¬ (i : Int) = x := by omega
    simp [nextRows, hne]
theorem nextRows_nil (nx : Int → List Int) (n : Nat) : nextRows nx [] n = List.replicate n [.nils] := by
  refine List.ext_getElem (by simp [nextRows]) fun i h2 h3 => ?_
  simp [nextRows]
theorem nextRows_all (nx : Int → List Int) (nodes : List Int) (n : Nat) : ∀ y ∈ nextRows nx nodes n, ∀ c ∈ y, ∀ m, immA (m + 1) c = true := by
  intro y hy c hc m
  unfold nextRows at hy
  rw [List.mem_map] at hy
  obtain ⟨i, _, rfl⟩ := hy
  have : c = _ := List.mem_singleton.1 hc
  rw [this]
  split <;> rfl

/-! ### find's memory -/
structure FInv (g : Gr) (far : List Int) (gid rid fid wid xid sid : Nat) (σ : Store) (seen : List Bool) (vw : AVal) (work : List Int) (vn : AVal) (nodes : List Int) (rows : List (List AVal)) : Prop where
  gg : σ.get gid = some (.row 0 false 2 [[.sc (.int .i64 g.n), .lst (g.ls.map Lk.row)]])
  gr : σ.get rid = some (.row 0 false 3 [[.nils, .nils, .b false]])
  gf : σ.get fid = some (.row 0 false 1 [[.lst (ints far)]])
  gw : σ.get wid = some (.row 0 false 3 [[vn, .sl xid 0 0 g.n.toNat 1, .b true]])
  gx : σ.get xid = some (.row 0 false 1 rows)
  gs : σ.get sid = some (.row 0 false 1 (bools seen))
  two : Two σ 1 vw (ints work) 1 vn (ints nodes) [gid, rid, fid, wid, xid, sid]
  ne : [gid, rid, fid, wid, xid, sid].Nodup

section
variable {g : Gr} {far : List Int} {gid rid fid wid xid sid : Nat} {σ σ' : Store} {seen : List Bool} {vw : AVal} {work : List Int} {vn : AVal} {nodes : List Int} {rows : List (List AVal)}
theorem FInv.fresh (h : FInv g far gid rid fid wid xid sid σ seen vw work vn nodes rows) {id : Nat} (hid : σ.get id = none) (o : Ab.Obj) : FInv g far gid rid fid wid xid sid (σ.set id o) seen vw work vn nodes rows where
  gg := by rw [get_fresh hid (by rw [h.gg]; rfl), h.gg]
  gr := by rw [get_fresh hid (by rw [h.gr]; rfl), h.gr]
  gf := by rw [get_fresh hid (by rw [h.gf]; rfl), h.gf]
  gw := by rw [get_fresh hid (by rw [h.gw]; rfl), h.gw]
  gx := by rw [get_fresh hid (by rw [h.gx]; rfl), h.gx]
  gs := by rw [get_fresh hid (by rw [h.gs]; rfl), h.gs]
  two := (h.two.fresh hid o).less fun x hx => List.mem_cons_of_mem _ hx
  ne := h.ne
theorem FInv.setW (h : FInv g far gid rid fid wid xid sid σ seen vw work vn nodes rows) {vn' : AVal} {nodes' : List Int} (ha : Acc σ' 1 vn' (ints nodes') (objs vw ++ [gid, rid, fid, wid, xid, sid])) (hk : ∀ j ∈ objs vw ++ [gid, rid, fid, wid, xid, sid], σ'.get j = σ.get j) :
    FInv g far gid rid fid wid xid sid (σ'.set wid (.row 0 false 3 [[vn', .sl xid 0 0 g.n.toNat 1, .b true]])) seen vw work vn' nodes' rows := by
  have hn := h.ne
  simp at hn
  obtain ⟨⟨n1, n2, n3, n4, n5⟩, ⟨n6, n7, n8, n9⟩, ⟨n10, n11, n12⟩, ⟨n13, n14⟩, n15⟩ := hn
  refine ⟨?_, ?_, ?_, by simp, ?_, ?_, ?_, h.ne⟩
  · rw [Store.get_set_ne _ _ n3, hk gid (by simp), h.gg]
  · rw [Store.get_set_ne _ _ n7, hk rid (by simp), h.gr]
  · rw [Store.get_set_ne _ _ n10, hk fid (by simp), h.gf]
  · rw [Store.get_set_ne _ _ (fun e => n13 e.symm), hk xid (by simp), h.gx]
  · rw [Store.get_set_ne _ _ (fun e => n14 e.symm), hk sid (by simp), h.gs]
  · exact ((h.two.swap.first ha hk).other (by simp) _).swap
theorem FInv.setX (h : FInv g far gid rid fid wid xid sid σ seen vw work vn nodes rows) (rows' : List (List AVal)) : FInv g far gid rid fid wid xid sid (σ.set xid (.row 0 false 1 rows')) seen vw work vn nodes rows' := by
  have hn := h.ne
  simp at hn
  obtain ⟨⟨n1, n2, n3, n4, n5⟩, ⟨n6, n7, n8, n9⟩, ⟨n10, n11, n12⟩, ⟨n13, n14⟩, n15⟩ := hn
  refine ⟨?_, ?_, ?_, ?_, by simp, ?_, h.two.other (by simp) _, h.ne⟩
  · rw [Store.get_set_ne _ _ n4, h.gg]
  · rw [Store.get_set_ne _ _ n8, h.gr]
  · rw [Store.get_set_ne _ _ n11, h.gf]
  · rw [Store.get_set_ne _ _ n13, h.gw]
  · rw [Store.get_set_ne _ _ (fun e => n15 e.symm), h.gs]
theorem FInv.setS (h : FInv g far gid rid fid wid xid sid σ seen vw work vn nodes rows) (seen' : List Bool) : FInv g far gid rid fid wid xid sid (σ.set sid (.row 0 false 1 (bools seen'))) seen' vw work vn nodes rows := by
  have hn := h.ne
  simp at hn
  obtain ⟨⟨n1, n2, n3, n4, n5⟩, ⟨n6, n7, n8, n9⟩, ⟨n10, n11, n12⟩, ⟨n13, n14⟩, n15⟩ := hn
  refine ⟨?_, ?_, ?_, ?_, ?_, by simp, h.two.other (by simp) _, h.ne⟩
  · rw [Store.get_set_ne _ _ n5, h.gg]
  · rw [Store.get_set_ne _ _ n9, h.gr]
  · rw [Store.get_set_ne _ _ n12, h.gf]
  · rw [Store.get_set_ne _ _ n14, h.gw]
  · rw [Store.get_set_ne _ _ n15, h.gx]
theorem FInv.setWork (h : FInv g far gid rid fid wid xid sid σ seen vw work vn nodes rows) {vw' : AVal} {work' : List Int} (ha : Acc σ' 1 vw' (ints work') (objs vn ++ [gid, rid, fid, wid, xid, sid])) (hk : ∀ j ∈ objs vn ++ [gid, rid, fid, wid, xid, sid], σ'.get j = σ.get j) :
    FInv g far gid rid fid wid xid sid σ' seen vw' work' vn nodes rows where
  gg := by rw [hk gid (by simp), h.gg]
  gr := by rw [hk rid (by simp), h.gr]
  gf := by rw [hk fid (by simp), h.gf]
  gw := by rw [hk wid (by simp), h.gw]
  gx := by rw [hk xid (by simp), h.gx]
  gs := by rw [hk sid (by simp), h.gs]
  two := h.two.first ha hk
  ne := h.ne
end
end Go.Proofs

set_option linter.unusedSimpArgs false
set_option linter.unusedVariables false
namespace Go.Proofs
open Go.Ab

/-! ### The sort of the nodes -/
def toNd (k : Nat) (x : Int) : Fin (k + 1) := Fin.ofNat (k + 1) x.toNat
theorem toNd_val {k : Nat} {x : Int} (h0 : 0 ≤ x) (h1 : x.toNat < k + 1) : (((toNd k x).val : Nat) : Int) = x := by
  unfold toNd
  simp only [Fin.ofNat, Nat.mod_eq_of_lt h1]
  omega
def cfFar (far : List Int) {k : Nat} (x y : Fin (k + 1)) : Int := cmpI (at0 far ((y.val : Nat) : Int)) (at0 far ((x.val : Nat) : Int))
theorem lt_cf (far : List Int) {k : Nat} (x y : Fin (k + 1)) : ltOf (cfFar far) x y = decide (at0 far ((y.val : Nat) : Int) < at0 far ((x.val : Nat) : Int)) := by
  unfold ltOf cfFar cmpI
  by_cases h : at0 far ((y.val : Nat) : Int) < at0 far ((x.val : Nat) : Int)
  · rw [if_pos h, decide_eq_true h]; rfl
  · rw [if_neg h, decide_eq_false h]
    split <;> rfl
theorem swoFar (far : List Int) {k : Nat} : Sort.SWO (ltOf (cfFar far (k := k))) where
  irrefl x := by rw [lt_cf]; simp
  trans x y z h1 h2 := by rw [lt_cf] at *; simp only [decide_eq_true_eq] at *; omega
  ntrans x y z h1 h2 := by rw [lt_cf] at *; simp only [decide_eq_false_iff_not] at *; omega
def sortNd (far : List Int) (k : Nat) (nodes : List Int) : List Int :=
  (Sort.pdq (ltOf (cfFar far)) (nodes.map (toNd k)).toArray 0 nodes.length (Lib.bitLen nodes.length) true true).toList.map (fun x => ((x.val : Nat) : Int))
theorem sortNd_pdq (far : List Int) (k : Nat) (d : Array (Fin (k + 1))) : Sort.PermIn 0 d.size d (Sort.pdq (ltOf (cfFar far)) d 0 d.size (Lib.bitLen d.size) true true) ∧ Sort.SortedIn (ltOf (cfFar far)) 0 d.size (Sort.pdq (ltOf (cfFar far)) d 0 d.size (Lib.bitLen d.size) true true) :=
  Sort.pdq_sorts (ltOf (cfFar far)) (swoFar far) d 0 d.size (Lib.bitLen d.size) true true (Nat.zero_le _) (Nat.le_refl _) (Or.inl rfl)
theorem back_map {k : Nat} {nodes : List Int} (h : ∀ x ∈ nodes, 0 ≤ x ∧ x.toNat < k + 1) : (nodes.map (toNd k)).map (fun x => ((x.val : Nat) : Int)) = nodes := by
  rw [List.map_map]
  conv => rhs; rw [← List.map_id nodes]
  exact List.map_congr_left fun x hx => toNd_val (h x hx).1 (h x hx).2
theorem sortNd_perm {far : List Int} {k : Nat} {nodes : List Int} (h : ∀ x ∈ nodes, 0 ≤ x ∧ x.toNat < k + 1) : (sortNd far k nodes).Perm nodes := by
  obtain ⟨⟨h1, _, h3⟩, _⟩ := sortNd_pdq far k (nodes.map (toNd k)).toArray
  simp only [List.size_toArray, List.length_map] at h1 h3
  unfold sortNd
  have e1 : ∀ d : Array (Fin (k + 1)), d.size = nodes.length → (d.extract 0 nodes.length).toList = d.toList := fun d hd => by rw [← hd]; simp
  rw [e1 _ h1, e1 _ (by simp)] at h3
  have := h3.map (fun x => ((x.val : Nat) : Int))
  rw [List.toList_toArray, back_map h] at this
  exact this
theorem sortNd_sorted {far : List Int} {k : Nat} {nodes : List Int} : (sortNd far k nodes).Pairwise (fun x y => at0 far y ≤ at0 far x) := by
  obtain ⟨⟨h1, _, _⟩, h2⟩ := sortNd_pdq far k (nodes.map (toNd k)).toArray
  simp only [List.size_toArray, List.length_map] at h1 h2
  unfold sortNd
  generalize Sort.pdq (ltOf (cfFar far)) (nodes.map (toNd k)).toArray 0 nodes.length (Lib.bitLen nodes.length) true true = d at *
  rw [List.pairwise_map, List.pairwise_iff_getElem]
  intro i j hi hj hij
  have := h2 i j (Nat.zero_le _) hij (by rw [← h1]; simpa using hj)
  rw [lt_cf, getElem!_pos d i (by simpa using hi), getElem!_pos d j (by simpa using hj)] at this
  simp only [decide_eq_false_iff_not] at this
  simp only [Array.getElem_toList]
  omega

def findVal (g : Gr) (down : List Bool) (from_ to : Int) : AVal :=
  if refFrom g down to ≠ [] ∧ (0 ≤ from_ ∧ from_ < g.n) ∧ 0 ≤ at0 (refFrom g down to) from_ then
    .agg [.lst (ints (sortNd (refFrom g down to) (g.n.toNat - 1) (nodesOf g (nextOf g down (refFrom g down to)) from_))), .lst (nextRows (nextOf g down (refFrom g down to)) (nodesOf g (nextOf g down (refFrom g down to)) from_) g.n.toNat), .b true]
  else .agg [.nils, .nils, .b false]

theorem find_sort {σ : Store} {id ver off fid : Nat} {xs : List (List AVal)} {nodes : List Int} {others : List Nat} {far : List Int} {k : Nat} (hk : far.length = k + 1) (hl : nodes.length < 1000000) (hn : ∀ x ∈ nodes, 0 ≤ x ∧ x.toNat < k + 1)
    (ha : AccAt σ 1 id ver off xs (ints nodes) others) (hf : σ.get fid = some (.row 0 false 1 [[.lst (ints far)]])) (hfo : fid ∈ others) {Q : AVal → Store → Prop}
    (hQ : ∀ σ', Acc σ' 1 (.sl id ver off nodes.length 1) (ints (sortNd far k nodes)) others → (∀ j ∈ others, σ'.get j = σ.get j) → Q (.tup []) σ') :
    Ab.Good Try.prog 28 [.sl id ver off nodes.length 1, .func 29 [.ptr fid 0 0 0]] σ Q := by
  have hne : fid ≠ id := ha.ne hfo
  have hsize : (nodes.map (toNd k)).toArray.size = nodes.length := by simp
  have hle := ha.le
  have heq := ha.eq
  rw [ints_len] at hle heq
  have := good_sortf (P := Try.prog) (f := 28) (g := 29) (τ := Fin (k + 1)) (σ := σ) (fun x => .int .i64 ((x.val : Nat) : Int)) (fun _ => rfl) (cfFar far) (fun d => Sort.pdq (ltOf (cfFar far)) d 0 d.size (Lib.bitLen d.size) true true) (fun d => (sortNd_pdq far k d).1.1)
    ⟨_, Try.func28, rfl, by kernel_rfl⟩
    (fun cb blk off cap d w hc hH hb hs => Try.slices_SortFunc_eq (fun x : Fin (k + 1) => .int .i64 ((x.val : Nat) : Int)) (fun _ => rfl) (cfFar far) (swoFar far) 29 cb blk off cap d w (enters_of Try.func29 (by kernel_rfl) rfl) hc hH hb hs)
    (fun p cap fv w => Try.slices_SortFunc_none (α := Nat) p cap fv w)
    (caps := [.ptr fid 0 0 0]) (xs := [.iptr [.lst (ints far)] 0]) (n := 2) (by simp [snapL, mapO, snap, rowAt_get hf])
    (fun x y => find1_ok far _ _ ⟨by omega, by have := x.isLt; omega⟩ ⟨by omega, by have := y.isLt; omega⟩)
    (id := id) (ver := ver) (off := off) (rows := xs) ha.row (by simp [reachL, reach, rowAt_get hf]; exact fun e => hne e.symm) (nodes.map (toNd k)).toArray (by rw [hsize]; exact hle) (by rw [hsize]; omega)
    (by
      rw [hsize, heq, List.toList_toArray, List.map_map]
      unfold ints
      exact List.map_congr_left fun x hx => by rw [Function.comp, toNd_val (hn x hx).1 (hn x hx).2])
    (Q := Q) ?_
  · rw [hsize] at this; exact this
  · rw [hsize]
    have hrow : (Sort.pdq (ltOf (cfFar far)) (nodes.map (toNd k)).toArray 0 nodes.length (Lib.bitLen nodes.length) true true).toList.map (fun x => [AVal.sc (.int .i64 ((x.val : Nat) : Int))]) = ints (sortNd far k nodes) := by
      unfold sortNd ints
      rw [List.map_map]; rfl
    simp only [hrow]
    have hlen : (sortNd far k nodes).length = nodes.length := (sortNd_perm hn).length_eq
    refine hQ _ ⟨ha.alive.set _ _, .inr ⟨id, ver, off, _, by rw [ints_len, hlen], rowAt_self, ha.not, ?_, ?_⟩⟩ fun j hj => Store.get_set_ne _ _ (ha.ne hj)
    · simp only [List.length_append, List.length_take, List.length_drop, ints_len, hlen]; omega
    · rw [List.append_assoc, List.drop_append_of_le_length (by simp; omega), List.drop_of_length_le (by simp; omega), List.nil_append, List.take_left']
      rfl
end Go.Proofs

set_option linter.unusedSimpArgs false
set_option linter.unusedVariables false
namespace Go.Proofs
open Go.Ab

set_option maxHeartbeats 1000000 in
theorem find_ok (g : Gr) (down : List Bool) (from_ to : Int) : PGood Try.prog 21 [g.val, .lst (bools down), .i from_, .i to] (findVal g down from_ to) := by
  refine pgood_of_out 4 (good_of_wp isF21 (Nat.le_refl _) ?_)
  unfold ac21
  simp only [go_sem, simprocAttr, Gr.val]
  intro gid hgid
  simp only [go_sem, simprocAttr]
  intro rid hrid
  have a1 : gid ≠ rid := fun e => by rw [← e] at hrid; simp at hrid
  simp only [go_sem, simprocAttr, rowAt_fresh hrid]
  refine good_imm (spf_to_ok g down to) rfl ?_
  rw [spf_eq_ref]
  have bmild : ∀ x ∈ refFrom g down to, -1 ≤ x ∧ x ≤ 671088640 := refFrom_mild
  have bnil := refFrom_nil (g := g) (down := down) (node := to)
  have hdef : findVal g down from_ to = if refFrom g down to ≠ [] ∧ (0 ≤ from_ ∧ from_ < g.n) ∧ 0 ≤ at0 (refFrom g down to) from_ then
    .agg [.lst (ints (sortNd (refFrom g down to) (g.n.toNat - 1) (nodesOf g (nextOf g down (refFrom g down to)) from_))), .lst (nextRows (nextOf g down (refFrom g down to)) (nodesOf g (nextOf g down (refFrom g down to)) from_) g.n.toNat), .b true]
    else .agg [.nils, .nils, .b false] := rfl
  have blen : g.check.2 = 0 ∧ 0 ≤ to ∧ to < g.n → (refFrom g down to).length = g.n.toNat := fun h => (refFrom_dist (g.check_ok.1 h.1) h.2).len
  generalize refFrom g down to = b at *
  have nil : ¬ (b ≠ [] ∧ (0 ≤ from_ ∧ from_ < g.n) ∧ 0 ≤ at0 b from_) → ∀ σ : Store, Out 4 σ (.agg [.nils, .nils, .b false]) (findVal g down from_ to) := fun h σ => by
    rw [hdef, if_neg h]; exact out_imm rfl
  simp only [go_sem, simprocAttr]
  intro fid hfid
  have a2 : gid ≠ fid := fun e => by rw [← e, Store.get_set_ne _ _ a1] at hfid; simp at hfid
  have a3 : rid ≠ fid := fun e => by rw [← e] at hfid; simp at hfid
  simp only [go_sem, simprocAttr]
  by_cases hb : b = []
  · have h0 : (b.length : Int) = 0 := by rw [hb]; rfl
    simp only [go_sem, simprocAttr, h0, rowAt_fresh hfid, rowAt_fresh hrid]
    exact nil (fun h => h.1 hb) _
  have h0 : ¬ (b.length : Int) = 0 := fun h => hb (List.eq_nil_of_length_eq_zero (by omega))
  simp only [go_sem, simprocAttr, h0, rowAt_fresh hfid, rowAt_fresh hrid, rowAt_ne a2]
  refine good_imm (is_ok g.n (.lst (g.ls.map Lk.row)) from_) rfl ?_
  by_cases hn : 0 ≤ from_ ∧ from_ < g.n
  case neg =>
    simp only [go_sem, simprocAttr, hn, rowAt_fresh hfid, rowAt_fresh hrid]
    exact nil (fun h => hn h.2.1) _
  have gb : g.check.2 = 0 ∧ 0 ≤ to ∧ to < g.n := Decidable.byContradiction fun h => hb (bnil.2 h)
  have bl := blen gb
  obtain ⟨k1, k2, k3, k4⟩ := g.check_ok.1 gb.1
  have hok : g.Ok := ⟨k1, k2, k3, k4⟩
  have hti : from_.toNat < b.length := by omega
  have n1 : from_ < (b.length : Int) := by omega
  have x1 : (ints b)[from_.toNat]? = some [.sc (.int .i64 (at0 b from_))] := ints_get (by simp [hti])
  have n0 := hn.1
  simp only [go_sem, simprocAttr, hn, n0, n1, x1]
  by_cases hneg : at0 b from_ < 0
  · simp only [go_sem, simprocAttr, hneg, rowAt_fresh hfid, rowAt_fresh hrid]
    exact nil (fun h => by omega) _
  have p1 : (0 : Int) ≤ g.n := by omega
  have p2 : g.n ≤ 9223372036854775807 := by omega
  have p3 : g.n.toNat * 24 ≤ 281474976710656 := by omega
  have p4 : g.n.toNat * 1 ≤ 281474976710656 := by omega
  simp only [go_sem, simprocAttr, hneg, p1, p2, p3, rowAt_fresh hfid, rowAt_fresh hrid]
  intro xid hxid
  have a4 : gid ≠ xid := fun e => by rw [← e, Store.get_set_ne _ _ a2, Store.get_set_ne _ _ a1] at hxid; simp at hxid
  have a5 : rid ≠ xid := fun e => by rw [← e, Store.get_set_ne _ _ a3] at hxid; simp at hxid
  have a6 : fid ≠ xid := fun e => by rw [← e] at hxid; simp at hxid
  simp only [go_sem, simprocAttr]
  intro wid hwid
  have a7 : gid ≠ wid := fun e => by rw [← e, Store.get_set_ne _ _ a4, Store.get_set_ne _ _ a2, Store.get_set_ne _ _ a1] at hwid; simp at hwid
  have a8 : rid ≠ wid := fun e => by rw [← e, Store.get_set_ne _ _ a5, Store.get_set_ne _ _ a3] at hwid; simp at hwid
  have a9 : fid ≠ wid := fun e => by rw [← e, Store.get_set_ne _ _ a6] at hwid; simp at hwid
  have a10 : xid ≠ wid := fun e => by rw [← e] at hwid; simp at hwid
  simp only [go_sem, simprocAttr, rowAt_ne a7, rowAt_ne a4, rowAt_ne a2, rowAt_ne a1, p1, p2, p4]
  intro sid hsid
  have a11 : gid ≠ sid := fun e => by rw [← e, Store.get_set_ne _ _ a7, Store.get_set_ne _ _ a4, Store.get_set_ne _ _ a2, Store.get_set_ne _ _ a1] at hsid; simp at hsid
  have a12 : rid ≠ sid := fun e => by rw [← e, Store.get_set_ne _ _ a8, Store.get_set_ne _ _ a5, Store.get_set_ne _ _ a3] at hsid; simp at hsid
  have a13 : fid ≠ sid := fun e => by rw [← e, Store.get_set_ne _ _ a9, Store.get_set_ne _ _ a6] at hsid; simp at hsid
  have a14 : xid ≠ sid := fun e => by rw [← e, Store.get_set_ne _ _ a10] at hsid; simp at hsid
  have a15 : wid ≠ sid := fun e => by rw [← e] at hsid; simp at hsid
  simp only [go_sem, simprocAttr]
  have hz : List.replicate g.n.toNat [AVal.sc (.bool false)] = bools (List.replicate g.n.toNat false) := (bools_rep _ _).symm
  have q1 : from_ < (g.n.toNat : Int) := by omega
  have q2 : from_.toNat < g.n.toNat := by omega
  have x2 : (bools (List.replicate g.n.toNat false))[from_.toNat]? = some [.sc (.bool false)] := bools_get (by simp [q2])
  rw [hz]
  simp only [go_sem, simprocAttr, n0, q1, x2]
  intro kid hkid
  have hset : (bools (List.replicate g.n.toNat false)).set from_.toNat [AVal.sc (.bool true)] = bools ((List.replicate g.n.toNat false).set from_.toNat true) := (bools_set _ _ _).symm
  rw [hset] at hkid ⊢
  have hN : visit g (nextOf g down b) g.n.toNat ((List.replicate g.n.toNat false).set from_.toNat true) [from_] [] = nodesOf g (nextOf g down b) from_ := rfl
  have hfin : findVal g down from_ to = .agg [.lst (ints (sortNd b (g.n.toNat - 1) (nodesOf g (nextOf g down b) from_))), .lst (nextRows (nextOf g down b) (nodesOf g (nextOf g down b) from_) g.n.toNat), .b true] := by rw [hdef, if_pos ⟨hb, hn, by omega⟩]
  have hmild : Mild b := fun x hx => ⟨(bmild x hx).1, by have := (bmild x hx).2; omega⟩
  have hnx : ∀ at_ e, e ∈ nextOf g down b at_ → 0 ≤ (g.ends e).2.1 ∧ (g.ends e).2.1 < g.n := fun at_ e he => (nextOf_mem hok he).2.2.1
  have hnxe : ∀ at_ e, e ∈ nextOf g down b at_ → e < 9223372036854775808 := fun at_ e he => by have := (nextOf_mem hok he).1; omega
  have hnxl : ∀ at_, (nextOf g down b at_).length ≤ 240 := fun at_ => by
    unfold nextOf
    split
    · exact Nat.le_trans (List.length_filter_le _ _) (by have := g.out_len at_; omega)
    · simp
  have hun : unseen ((List.replicate g.n.toNat false).set from_.toNat true) + 1 = g.n.toNat := by
    have h1 : from_.toNat < g.n.toNat := by omega
    rw [unseen_set (by simpa using h1) (by simp [h1])]
    simp [unseen]
  clear hdef nil
  have hpn : ∀ at_, PGood Try.prog 27 [g.val, .lst (bools down), .lst (ints b), .i at_] (.lst (ints (nextOf g down b at_))) := fun at_ => spf_next_ok g down b at_ hmild
  generalize nextOf g down b = nx at *
  generalize nodesOf g nx from_ = N at *
  have al6 : Alive ((((((Store.empty.set gid (.row 0 false 2 [[.sc (.int .i64 g.n), .lst (g.ls.map Lk.row)]])).set rid (.row 0 false 3 [[.nils, .nils, .sc (.bool false)]])).set fid (.row 0 false 1 [[.lst (ints b)]])).set xid (.row 0 false 1 (List.replicate g.n.toNat [.nils]))).set wid (.row 0 false 3 [[.nils, .sl xid 0 0 g.n.toNat 1, .sc (.bool true)]])).set sid (.row 0 false 1 (bools ((List.replicate g.n.toNat false).set from_.toNat true)))) [gid, rid, fid, wid, xid, sid] := by
    intro j hj
    simp only [List.mem_cons, List.not_mem_nil, or_false] at hj
    rcases hj with rfl | rfl | rfl | rfl | rfl | rfl <;> simp [Store.get_set, a1, a2, a3, a4, a5, a6, a7, a8, a9, a10, a11, a12, a13, a14, a15]
  have ini : FInv g b gid rid fid wid xid sid (((((((Store.empty.set gid (.row 0 false 2 [[.sc (.int .i64 g.n), .lst (g.ls.map Lk.row)]])).set rid (.row 0 false 3 [[.nils, .nils, .sc (.bool false)]])).set fid (.row 0 false 1 [[.lst (ints b)]])).set xid (.row 0 false 1 (List.replicate g.n.toNat [.nils]))).set wid (.row 0 false 3 [[.nils, .sl xid 0 0 g.n.toNat 1, .sc (.bool true)]])).set sid (.row 0 false 1 (bools ((List.replicate g.n.toNat false).set from_.toNat true)))).set kid (.row 0 false 1 [[.sc (.int .i64 from_)]]))
      ((List.replicate g.n.toNat false).set from_.toNat true) (.sl kid 0 0 1 1) [from_] .nils [] (nextRows nx [] g.n.toNat) := by
    rw [nextRows_nil]
    refine ⟨?_, ?_, ?_, ?_, ?_, ?_, ?_, ?_⟩
    · rw [get_fresh hkid] <;> simp [Store.get_set, a1, a2, a4, a7, a11]
    · rw [get_fresh hkid] <;> simp [Store.get_set, a3, a5, a8, a12]
    · rw [get_fresh hkid] <;> simp [Store.get_set, a6, a9, a13]
    · rw [get_fresh hkid] <;> simp [Store.get_set, a15]
    · rw [get_fresh hkid] <;> simp [Store.get_set, a10, a14]
    · rw [get_fresh hkid] <;> simp [Store.get_set]
    · have h := acc_new (sz := 1) (rows := ints [from_]) al6 hkid
      exact ⟨h, acc_nils ((h.objs_alive).app h.1)⟩
    · simp [a1, a2, a3, a4, a5, a6, a7, a8, a9, a10, a11, a12, a13, a14, a15, a10.symm]
  generalize hσ : ((((((((Store.empty.set gid (.row 0 false 2 [[.sc (.int .i64 g.n), .lst (g.ls.map Lk.row)]])).set rid (.row 0 false 3 [[.nils, .nils, .sc (.bool false)]])).set fid (.row 0 false 1 [[.lst (ints b)]])).set xid (.row 0 false 1 (List.replicate g.n.toNat [.nils]))).set wid (.row 0 false 3 [[.nils, .sl xid 0 0 g.n.toNat 1, .sc (.bool true)]])).set sid (.row 0 false 1 (bools ((List.replicate g.n.toNat false).set from_.toNat true)))).set kid (.row 0 false 1 [[.sc (.int .i64 from_)]]))) = σ0 at *
  clear al6
  simp only [go_sem, simprocAttr]
  let I : Nat → Fr → Store → Prop := fun m fr τ => ∃ (seen : List Bool) (vw : AVal) (work : List Int) (vn : AVal) (nodes : List Int), m = unseen seen + work.length ∧
    fr = [(1, .lst (bools down)), (4, .ptr gid 0 0 0), (8, .ptr rid 0 0 0), (9, .ptr fid 0 0 0), (10, .ptr wid 0 0 0), (11, .sl sid 0 0 g.n.toNat 1), (12, vw)] ∧
    FInv g b gid rid fid wid xid sid τ seen vw work vn nodes (nextRows nx nodes g.n.toNat) ∧ seen.length = g.n.toNat ∧ (∀ x ∈ work, 0 ≤ x ∧ x < g.n) ∧ (∀ x ∈ nodes, 0 ≤ x ∧ x < g.n) ∧ (work ≠ [] ∨ nodes ≠ []) ∧ nodes.length + (unseen seen + work.length) ≤ 40 ∧
    visit g nx (unseen seen + work.length) seen work nodes = N
  refine loop_rule I g.n.toNat ⟨_, _, _, _, _, ?_, rfl, ini, by simp, ?_, (fun x hx => by cases hx), .inl (by simp), ?_, ?_⟩ ?_
  · rw [List.length_singleton, hun]
  · intro x hx
    have : x = from_ := by simpa using hx
    rw [this]; exact hn
  · rw [List.length_singleton, hun, List.length_nil]; omega
  · rw [List.length_singleton, hun]; exact hN
  clear ini hσ σ0 hun hN hkid
  rintro m fr τ ⟨seen, vw, work, vn, nodes, rfl, rfl, fi, hsl, hwr, hnr, hwn, hcap, hvis⟩
  have hlw := fi.two.1.len
  simp only [go_sem, simprocAttr, hlw]
  refine .intro (fun hw => ?_) (fun hw => ?_)
  · obtain ⟨at_, rest, rfl⟩ : ∃ a r, work = a :: r := by
      cases work with
      | nil => simp at hw
      | cons a r => exact ⟨a, r, rfl⟩
    obtain ⟨id, ver, off, xs, rfl, acc⟩ := fi.two.1.at (by simp [ints])
    have hat := hwr at_ (by simp)
    have x3 : xs[off]? = some [.sc (.int .i64 at_)] := acc.get (i := 0) rfl
    have e0 : (0 : Int) < ((rest.length + 1 : Nat) : Int) := by omega
    have en : (ints (at_ :: rest)).length = rest.length + 1 := by simp [ints]
    rw [en] at fi
    simp only [go_sem, simprocAttr, acc.row, x3, en, e0, rowAt_get fi.gw]
    intro id2 hid2
    have fi2 := fi.fresh hid2 (.row 0 false 1 [[.sc (.int .i64 at_)]])
    simp only [go_sem, simprocAttr]
    simp only [List.length_cons] at hcap
    refine acc_append fi2.two.2 (by simp only [ints_len, List.length_cons, List.length_nil]; omega) (by simp only [ints_len, List.length_cons, List.length_nil]; omega) fun vn' τ2 c1 c2 => ?_
    have ew : [[AVal.sc (.int .i64 at_)]] = ints [at_] := rfl
    rw [ew, ← ints_app] at c1
    have gw2 : τ2.get wid = some (.row 0 false 3 [[vn, .sl xid 0 0 g.n.toNat 1, .b true]]) := by rw [c2 wid (by simp), fi2.gw]
    have hkn := c1.known
    simp only [go_sem, simprocAttr, rowAt_get gw2, hkn]
    have fi3 := fi2.setW c1 c2
    clear fi2 c1 c2 hid2 gw2 hkn
    unfold op21_66
    simp only [go_sem, simprocAttr, rowAt_get fi3.gw, rowAt_get fi3.gg, rowAt_get fi3.gf]
    refine goodD_imm (hpn at_) rfl ?_
    have l3 : at_.toNat < g.n.toNat := by omega
    have l4 : at_ < (g.n.toNat : Int) := by omega
    have x4 := nextRows_get nx nodes hat.1 l3
    have hsx := nextRows_set nx nodes (n := g.n.toNat) hat.1 l3
    have l5 := hat.1
    simp only [go_sem, simprocAttr, l5, l4, rowAt_get fi3.gx, x4, hsx]
    have fi4 := fi3.setX (nextRows nx (nodes ++ [at_]) g.n.toNat)
    have x5 : (nextRows nx (nodes ++ [at_]) g.n.toNat)[at_.toNat]? = some [.lst (ints (nx at_))] := by
      rw [nextRows_get nx _ hat.1 l3]; simp
    simp only [go_sem, simprocAttr, rowAt_get fi4.gw, l5, l4, rowAt_get fi4.gx, x5]
    have hl240 := hnxl at_
    have hends := hnx at_
    have hendse := hnxe at_
    have hvis' : visit g nx (unseen seen + rest.length) ((nx at_).foldl (enq g) (seen, at_ :: rest)).1 ((nx at_).foldl (enq g) (seen, at_ :: rest)).2.tail (nodes ++ [at_]) = N := by
      have e : unseen seen + (at_ :: rest).length = (unseen seen + rest.length) + 1 := by simp; omega
      rw [e] at hvis
      exact hvis
    have hinv0 : ∀ k, EnqInv g (seen, at_ :: rest) (((nx at_).take k).foldl (enq g) (seen, at_ :: rest)) := fun k =>
      enqs_inv _ ⟨rfl, rfl, ⟨[], by simp⟩, fun x hx => .inl hx⟩ hsl fun e he => hends e (List.mem_of_mem_take he)
    clear hpn x4 hsx x5 hvis fi3 fi
    generalize hl : nx at_ = l at *
    let J : Nat → Fr → Store → Prop := fun m fr τ => ∃ (j : Nat) (seen' : List Bool) (vw' : AVal) (work' : List Int), j ≤ l.length ∧ m = l.length - j ∧
      fr = [(1, .lst (bools down)), (4, .ptr gid 0 0 0), (8, .ptr rid 0 0 0), (9, .ptr fid 0 0 0), (10, .ptr wid 0 0 0), (11, .sl sid 0 0 g.n.toNat 1), (12, vw'), (79, .lst (ints l)), (80, .i l.length), (81, .i j)] ∧
      FInv g b gid rid fid wid xid sid τ seen' vw' work' vn' (nodes ++ [at_]) (nextRows nx (nodes ++ [at_]) g.n.toNat) ∧ (l.take j).foldl (enq g) (seen, at_ :: rest) = (seen', work')
    refine loop_rule J l.length ⟨0, _, _, _, by omega, rfl, rfl, fi4, rfl⟩ ?_
    clear fi4
    rintro m fr τ4 ⟨j, seen', vw', work', hj, rfl, rfl, fi, hfold⟩
    simp only [go_sem, simprocAttr]
    refine .intro (fun hjl => ?_) (fun hjl => ?_)
    · have hjl' : j < l.length := by omega
      have x6 : (ints l)[j]? = some [.sc (.int .i64 l[j])] := ints_get (List.getElem?_eq_getElem hjl')
      have htake : (l.take (j + 1)).foldl (enq g) (seen, at_ :: rest) = enq g (seen', work') l[j] := by
        rw [List.take_succ_eq_append_getElem hjl', List.foldl_append, hfold]; rfl
      have he := hends l[j] (List.getElem_mem hjl')
      have hee := hendse l[j] (List.getElem_mem hjl')
      have hiv := hinv0 j
      rw [hfold] at hiv
      generalize l[j] = e at *
      have n4 : (0 : Int) ≤ j := by omega
      simp only [go_sem, simprocAttr, n4, x6, rowAt_get fi.gg]
      refine good_imm (ends_ok g e hee) rfl ?_
      have hsl' : seen'.length = g.n.toNat := hiv.len.trans hsl
      have hi1 : (g.ends e).2.1.toNat < seen'.length := by omega
      have hi2 : (g.ends e).2.1 < (g.n.toNat : Int) := by omega
      have hi3 := he.1
      have x7 : (bools seen')[(g.ends e).2.1.toNat]? = some [.sc (.bool (seen'.getD (g.ends e).2.1.toNat true))] := bools_get (by simp [hi1])
      have w4 : IntKind.i64.wrap ((j : Int) + 1) = ((j + 1 : Nat) : Int) := by rw [wrap_id (by omega) (by omega)]; rfl
      simp only [go_sem, simprocAttr, hi3, hi2, rowAt_get fi.gs, x7]
      cases hse : seen'.getD (g.ends e).2.1.toNat true with
      | true =>
        simp only [go_sem, simprocAttr, w4]
        refine back_of (l.length - (j + 1)) (Nat.sub_lt_sub_left hjl' (Nat.lt_succ_self j)) ⟨j + 1, seen', vw', work', hjl', rfl, rfl, fi, ?_⟩
        rw [htake]; unfold enq; rw [if_pos hse]
      | false =>
        have hen : enq g (seen', work') e = (seen'.set (g.ends e).2.1.toNat true, work' ++ [(g.ends e).2.1]) := by unfold enq; rw [if_neg (by rw [hse]; simp)]
        have hrs : (bools seen').set (g.ends e).2.1.toNat [AVal.sc (.bool true)] = bools (seen'.set (g.ends e).2.1.toNat true) := (bools_set _ _ _).symm
        rw [hse] at x7
        simp only [go_sem, simprocAttr, hi3, hi2, rowAt_get fi.gs, x7, hrs]
        have fi5 := fi.setS (seen'.set (g.ends e).2.1.toNat true)
        intro id3 hid3
        have fi6 := fi5.fresh hid3 (.row 0 false 1 [[.sc (.int .i64 (g.ends e).2.1)]])
        have hwl : work'.length ≤ 41 := by have := hiv.mea; simp only [List.length_cons] at this; omega
        simp only [go_sem, simprocAttr]
        refine acc_append fi6.two.1 (by simp only [ints_len, List.length_cons, List.length_nil]; omega) (by simp only [ints_len, List.length_cons, List.length_nil]; omega) fun vw2 τ5 c1 c2 => ?_
        have ew : [[AVal.sc (.int .i64 (g.ends e).2.1)]] = ints [(g.ends e).2.1] := rfl
        rw [ew, ← ints_app] at c1
        simp only [go_sem, simprocAttr, w4]
        refine back_of (l.length - (j + 1)) (Nat.sub_lt_sub_left hjl' (Nat.lt_succ_self j)) ⟨j + 1, _, vw2, _, hjl', rfl, rfl, fi6.setWork c1 c2, ?_⟩
        rw [htake, hen]
    · simp only [go_sem, simprocAttr]
      have e : j = l.length := by omega
      subst e
      rw [List.take_length] at hfold
      have hiv := hinv0 l.length
      rw [List.take_length, hfold] at hiv
      rw [hfold] at hvis'
      obtain ⟨r, hr⟩ := hiv.pre
      have hrlen : 0 < (ints work').length := by rw [ints_len]; simp only at hr; rw [hr]; simp
      obtain ⟨id', ver', off', xs', rfl, acc'⟩ := fi.two.1.at hrlen
      have n6 : (1 : Int) ≤ (work'.length : Nat) := by rw [ints_len] at hrlen; omega
      have n7 : (work'.length : Int) ≤ (work'.length : Nat) := Int.le_refl _
      simp only [go_sem, simprocAttr, n6, n7]
      have hpart := acc'.acc.part rfl (l := 1) (k := (ints work').length) (by omega) (Nat.le_refl _)
      have htl : ((ints work').drop 1).take ((ints work').length - 1) = ints work'.tail := by
        rw [List.take_of_length_le (by simp)]
        unfold ints
        rw [← List.map_drop, List.drop_one]
      rw [htl, ints_len] at hpart
      have fi7 := fi.setWork (σ' := τ4) hpart (fun _ _ => rfl)
      have hm : unseen seen' + work'.tail.length = unseen seen + rest.length := by
        have := hiv.mea
        simp only [List.length_cons] at this
        rw [List.length_tail]; omega
      refine back_of (unseen seen' + work'.tail.length) (by rw [hm]; omega) ⟨seen', _, work'.tail, vn', nodes ++ [at_], rfl, rfl, fi7, hiv.len.trans hsl, ?_, ?_, .inr (by simp), ?_, ?_⟩
      · intro x hx
        rcases hiv.rng x (List.mem_of_mem_tail hx) with h | h
        · exact hwr x h
        · exact h
      · intro x hx
        rcases List.mem_append.1 hx with h | h
        · exact hnr x h
        · have : x = at_ := by simpa using h
          rw [this]; exact hat
      · rw [hm]; simp only [List.length_append, List.length_cons, List.length_nil]; omega
      · rw [hm]; exact hvis'
  · have hw0 : work = [] := List.eq_nil_of_length_eq_zero (by omega)
    subst hw0
    have hne : nodes ≠ [] := by rcases hwn with h | h; exact absurd rfl h; exact h
    have hNn : nodes = N := by
      cases hu : unseen seen with
      | zero => rw [hu] at hvis; exact hvis
      | succ k => rw [hu] at hvis; exact hvis
    subst hNn
    simp only [go_sem, simprocAttr, rowAt_get fi.gw]
    have hnl : 0 < nodes.length := List.length_pos_iff.2 hne
    obtain ⟨id, ver, off, xs, rfl, acc⟩ := fi.two.2.at (by rw [ints_len]; exact hnl)
    rw [ints_len]
    have hb1 : b.length = (g.n.toNat - 1) + 1 := by omega
    refine find_sort hb1 (by omega) (fun x hx => ⟨(hnr x hx).1, by have := hnr x hx; omega⟩) acc fi.gf (by simp) fun τ6 c1 c2 => ?_
    have gw6 : τ6.get wid = some (.row 0 false 3 [[.sl id ver off nodes.length 1, .sl xid 0 0 g.n.toNat 1, .b true]]) := by rw [c2 wid (by simp), fi.gw, ints_len]
    have gx6 : τ6.get xid = some (.row 0 false 1 (nextRows nx nodes g.n.toNat)) := by rw [c2 xid (by simp), fi.gx]
    have gr6 : τ6.get rid = some (.row 0 false 3 [[.nils, .nils, .b false]]) := by rw [c2 rid (by simp), fi.gr]
    simp only [go_sem, simprocAttr, rowAt_get gw6, rowAt_get gr6]
    rw [hfin]
    have hd := fi.ne
    simp at hd
    have hrx : xid ≠ rid := fun e => hd.2.1.2.2.1 e.symm
    have hrow : Ab.rowAt (τ6.set rid (.row 0 false 3 [[.sl id ver off nodes.length 1, .sl xid 0 0 g.n.toNat 1, .b true]])) xid 0 = some (false, 1, nextRows nx nodes g.n.toNat) := by rw [rowAt_ne hrx, rowAt_get gx6]
    exact out_agg3 (acc_out (c1.other (id := rid) (by simp) _) (ints_sc _)) (out_sl_imm (m := 1) hrow (by rw [nextRows_len]; omega) (by rw [List.drop_zero, List.take_of_length_le (by rw [nextRows_len]; exact Nat.le_refl _)]) (fun y hy c hc => nextRows_all _ _ _ y hy c hc 1)) out_sc
end Go.Proofs

set_option linter.unusedSimpArgs false
set_option linter.unusedVariables false
namespace Go.Proofs
open Go.Ab

/-! ### The nodes that shortest ways pass -/
inductive Rch (g : Gr) (nx : Int → List Int) (from_ : Int) : Int → Prop
  | refl : Rch g nx from_ from_
  | step {x e : Int} : Rch g nx from_ x → e ∈ nx x → Rch g nx from_ (g.ends e).2.1
structure VInv (g : Gr) (nx : Int → List Int) (from_ : Int) (seen : List Bool) (work nodes : List Int) : Prop where
  len : seen.length = g.n.toNat
  seen : ∀ x, 0 ≤ x → x < g.n → (seen.getD x.toNat true = true ↔ x ∈ work ∨ x ∈ nodes)
  nodup : (nodes ++ work).Nodup
  rng : ∀ x, x ∈ work ∨ x ∈ nodes → 0 ≤ x ∧ x < g.n
  reach : ∀ x, x ∈ work ∨ x ∈ nodes → Rch g nx from_ x
  src : from_ ∈ work ∨ from_ ∈ nodes
structure VFin (g : Gr) (nx : Int → List Int) (from_ : Int) (N : List Int) : Prop where
  nodup : N.Nodup
  rng : ∀ x ∈ N, 0 ≤ x ∧ x < g.n
  src : from_ ∈ N
  closed : ∀ x ∈ N, ∀ e ∈ nx x, (g.ends e).2.1 ∈ N
  reach : ∀ x ∈ N, Rch g nx from_ x

theorem enq_vinv {g : Gr} {nx : Int → List Int} {from_ : Int} {seen : List Bool} {work nodes : List Int} (h : VInv g nx from_ seen work nodes) {x e : Int} (hx : Rch g nx from_ x) (he : e ∈ nx x) (hr : 0 ≤ (g.ends e).2.1 ∧ (g.ends e).2.1 < g.n) :
    VInv g nx from_ (enq g (seen, work) e).1 (enq g (seen, work) e).2 nodes ∧ ((g.ends e).2.1 ∈ (enq g (seen, work) e).2 ∨ (g.ends e).2.1 ∈ nodes) ∧ ∃ r, (enq g (seen, work) e).2 = work ++ r := by
  have hb : Rch g nx from_ (g.ends e).2.1 := .step hx he
  unfold enq
  generalize (g.ends e).2.1 = b at *
  have hlt : b.toNat < seen.length := by rw [h.len]; omega
  simp only
  split
  · rename_i hs
    exact ⟨h, (h.seen b hr.1 hr.2).1 hs, [], by simp⟩
  · rename_i hs
    have hnot : ¬ (b ∈ work ∨ b ∈ nodes) := fun hm => hs ((h.seen b hr.1 hr.2).2 hm)
    refine ⟨⟨by simpa using h.len, fun y y0 y1 => ?_, ?_, fun y hy => ?_, fun y hy => ?_, ?_⟩, .inl (by simp), [b], rfl⟩
    · have e1 : (seen.set b.toNat true).getD y.toNat true = if y = b then true else seen.getD y.toNat true := by
        by_cases e : y = b
        · subst e; simp [hlt]
        · rw [if_neg e]
          have : b.toNat ≠ y.toNat := by omega
          simp [List.getElem?_set_ne this]
      rw [e1]
      by_cases e : y = b
      · simp [e]
      · rw [if_neg e, h.seen y y0 y1]; simp [e]
    · have := h.nodup
      rw [← List.append_assoc, List.nodup_append]
      refine ⟨this, by simp, fun a ha c hc => ?_⟩
      have hc' : c = b := by simpa using hc
      rw [hc']
      intro e; subst e
      rcases List.mem_append.1 ha with ha | ha
      · exact hnot (.inr ha)
      · exact hnot (.inl ha)
    · rcases hy with hy | hy
      · rcases List.mem_append.1 hy with hy | hy
        · exact h.rng y (.inl hy)
        · have : y = b := by simpa using hy
          rw [this]; exact hr
      · exact h.rng y (.inr hy)
    · rcases hy with hy | hy
      · rcases List.mem_append.1 hy with hy | hy
        · exact h.reach y (.inl hy)
        · have : y = b := by simpa using hy
          rw [this]; exact hb
      · exact h.reach y (.inr hy)
    · rcases h.src with hs | hs
      · exact .inl (List.mem_append_left _ hs)
      · exact .inr hs

theorem enqs_vinv {g : Gr} {nx : Int → List Int} {from_ x : Int} (hx : Rch g nx from_ x) {nodes : List Int} : ∀ (l : List Int) (seen : List Bool) (work : List Int), (∀ e ∈ l, e ∈ nx x) → (∀ e ∈ l, 0 ≤ (g.ends e).2.1 ∧ (g.ends e).2.1 < g.n) → VInv g nx from_ seen work nodes →
    VInv g nx from_ (l.foldl (enq g) (seen, work)).1 (l.foldl (enq g) (seen, work)).2 nodes ∧ (∀ e ∈ l, (g.ends e).2.1 ∈ (l.foldl (enq g) (seen, work)).2 ∨ (g.ends e).2.1 ∈ nodes) ∧ ∃ r, (l.foldl (enq g) (seen, work)).2 = work ++ r
  | [], seen, work, _, _, h => ⟨h, (fun e he => by cases he), [], by simp⟩
  | e :: r, seen, work, hl, hr, h => by
    obtain ⟨h1, h2, r1, h3⟩ := enq_vinv h hx (hl e (by simp)) (hr e (by simp))
    obtain ⟨k1, k2, r2, k3⟩ := enqs_vinv hx r (enq g (seen, work) e).1 (enq g (seen, work) e).2 (fun y hy => hl y (by simp [hy])) (fun y hy => hr y (by simp [hy])) h1
    rw [List.foldl_cons]
    refine ⟨k1, fun y hy => ?_, r1 ++ r2, ?_⟩
    · rcases List.mem_cons.1 hy with hy | hy
      · rw [hy]
        rcases h2 with h2 | h2
        · refine .inl ?_
          rw [k3]; exact List.mem_append_left _ h2
        · exact .inr h2
      · exact k2 y hy
    · rw [k3, h3, List.append_assoc]

theorem visit_fin {g : Gr} {nx : Int → List Int} {from_ : Int} (hr : ∀ x e, e ∈ nx x → 0 ≤ (g.ends e).2.1 ∧ (g.ends e).2.1 < g.n) : ∀ (f : Nat) (seen : List Bool) (work nodes : List Int), VInv g nx from_ seen work nodes →
    (∀ x ∈ nodes, ∀ e ∈ nx x, (g.ends e).2.1 ∈ work ∨ (g.ends e).2.1 ∈ nodes) → unseen seen + work.length ≤ f → VFin g nx from_ (visit g nx f seen work nodes) := by
  intro f
  induction f with
  | zero =>
    intro seen work nodes h hc hf
    have : work = [] := List.eq_nil_of_length_eq_zero (by omega)
    subst this
    unfold visit
    exact ⟨by simpa using h.nodup, fun x hx => h.rng x (.inr hx), by simpa using h.src, fun x hx e he => by simpa using hc x hx e he, fun x hx => h.reach x (.inr hx)⟩
  | succ f ih =>
    intro seen work nodes h hc hf
    unfold visit
    cases work with
    | nil => exact ⟨by simpa using h.nodup, fun x hx => h.rng x (.inr hx), by simpa using h.src, fun x hx e he => by simpa using hc x hx e he, fun x hx => h.reach x (.inr hx)⟩
    | cons at_ rest =>
      simp only
      have hat : Rch g nx from_ at_ := h.reach at_ (.inl (by simp))
      obtain ⟨k1, k2, r, k3⟩ := enqs_vinv hat (nx at_) seen (at_ :: rest) (fun _ he => he) (fun e he => hr at_ e he) h
      have hmea := (enqs_inv (nx at_) (s0 := (seen, at_ :: rest)) ⟨rfl, rfl, ⟨[], by simp⟩, fun x hx => .inl hx⟩ h.len (fun e he => hr at_ e he)).mea
      generalize (nx at_).foldl (enq g) (seen, at_ :: rest) = s at *
      obtain ⟨sn, wk⟩ := s
      simp only at k1 k2 k3 hmea ⊢
      subst k3
      simp only [List.cons_append, List.tail_cons]
      have mv : ∀ y, (y ∈ at_ :: (rest ++ r) ∨ y ∈ nodes) ↔ (y ∈ rest ++ r ∨ y ∈ nodes ++ [at_]) := fun y => by
        simp only [List.mem_cons, List.mem_append, List.not_mem_nil, or_false]
        constructor
        · rintro ((h | h | h) | h)
          · exact .inr (.inr h)
          · exact .inl (.inl h)
          · exact .inl (.inr h)
          · exact .inr (.inl h)
        · rintro ((h | h) | (h | h))
          · exact .inl (.inr (.inl h))
          · exact .inl (.inr (.inr h))
          · exact .inr h
          · exact .inl (.inl h)
      refine ih sn (rest ++ r) (nodes ++ [at_]) ⟨k1.len, fun y y0 y1 => (k1.seen y y0 y1).trans (mv y), ?_, fun y hy => k1.rng y ((mv y).2 hy), fun y hy => k1.reach y ((mv y).2 hy), (mv from_).1 k1.src⟩ (fun y hy e he => ?_) ?_
      · have := k1.nodup
        rw [List.append_assoc]
        simpa using this
      · rw [← mv]
        rcases List.mem_append.1 hy with hy | hy
        · rcases hc y hy e he with h1 | h1
          · refine .inl ?_
            have : (g.ends e).2.1 ∈ (at_ :: rest) ++ r := List.mem_append_left _ h1
            simpa using this
          · exact .inr h1
        · have : y = at_ := by simpa using hy
          subst this
          simpa using k2 e he
      · simp only [List.length_cons, List.cons_append, List.length_append] at hmea hf ⊢; omega

theorem nodesOf_fin {g : Gr} {nx : Int → List Int} {from_ : Int} (hn : 0 ≤ from_ ∧ from_ < g.n) (hr : ∀ x e, e ∈ nx x → 0 ≤ (g.ends e).2.1 ∧ (g.ends e).2.1 < g.n) : VFin g nx from_ (nodesOf g nx from_) := by
  have h1 : from_.toNat < g.n.toNat := by omega
  refine visit_fin hr _ _ _ _ ⟨by simp, fun x x0 x1 => ?_, by simp, fun x hx => ?_, fun x hx => ?_, by simp⟩ (fun x hx => by cases hx) ?_
  · have h2 : x.toNat < g.n.toNat := by omega
    by_cases e : x = from_
    · subst e; simp [h1]
    · have : from_.toNat ≠ x.toNat := by omega
      rw [List.getD_eq_getElem?_getD, List.getElem?_set_ne this]
      simp [h2, e]
  · have : x = from_ := by simpa using hx
    rw [this]; exact hn
  · have : x = from_ := by simpa using hx
    rw [this]; exact .refl
  · have := unseen_set (seen := List.replicate g.n.toNat false) (i := from_.toNat) (by simpa using h1) (by simp [h1])
    rw [List.length_singleton, this]
    simp [unseen]
theorem vfin_len {g : Gr} {nx : Int → List Int} {from_ : Int} {N : List Int} (h : VFin g nx from_ N) : N.length ≤ g.n.toNat := by
  have : N ⊆ (List.range g.n.toNat).map (fun (i : Nat) => (i : Int)) := fun x hx => by
    have := h.rng x hx
    refine List.mem_map.2 ⟨x.toNat, List.mem_range.2 (by omega), by omega⟩
  have h2 := List.Nodup.length_le_of_subset h.nodup this
  simpa using h2
end Go.Proofs

set_option linter.unusedSimpArgs false
set_option linter.unusedVariables false
namespace Go.Proofs
open Go.Ab

def cntStep (g : Gr) (at_ : Int) (n : List Int) (e : Int) : List Int := n.set (g.ends e).2.1.toNat (if at0 n (g.ends e).2.1 + at0 n at_ < 1099511627776 then at0 n (g.ends e).2.1 + at0 n at_ else 1099511627776)
def cntAll (g : Gr) (nx : Int → List Int) (nodes : List Int) (n : List Int) : List Int := nodes.foldl (fun n at_ => (nx at_).foldl (cntStep g at_) n) n
def countOf (g : Gr) (down : List Bool) (from_ to : Int) : Int :=
  if refFrom g down to ≠ [] ∧ (0 ≤ from_ ∧ from_ < g.n) ∧ 0 ≤ at0 (refFrom g down to) from_ then
    at0 (cntAll g (nextOf g down (refFrom g down to)) (sortNd (refFrom g down to) (g.n.toNat - 1) (nodesOf g (nextOf g down (refFrom g down to)) from_)) ((List.replicate g.n.toNat 0).set from_.toNat 1)) to else 0
def CntOk (g : Gr) (n : List Int) : Prop := n.length = g.n.toNat ∧ ∀ x ∈ n, 0 ≤ x ∧ x ≤ 1099511627776
theorem CntOk.at {g : Gr} {n : List Int} (h : CntOk g n) {v : Int} (h0 : 0 ≤ v) (h1 : v < g.n) : 0 ≤ at0 n v ∧ at0 n v ≤ 1099511627776 := by
  have : v.toNat < n.length := by rw [h.1]; omega
  exact h.2 _ (by simp [this])
theorem CntOk.step {g : Gr} {n : List Int} (h : CntOk g n) {at_ e : Int} (ha : 0 ≤ at_ ∧ at_ < g.n) (he : 0 ≤ (g.ends e).2.1 ∧ (g.ends e).2.1 < g.n) : CntOk g (cntStep g at_ n e) := by
  have h1 := h.at ha.1 ha.2
  have h2 := h.at he.1 he.2
  refine ⟨by simpa [cntStep] using h.1, fun x hx => ?_⟩
  rcases List.mem_or_eq_of_mem_set hx with hx | hx
  · exact h.2 x hx
  · rw [hx]; split <;> omega
theorem count_ok (g : Gr) (down : List Bool) (from_ to : Int) : PGood Try.prog 10 [g.val, .lst (bools down), .i from_, .i to] (.i (countOf g down from_ to)) := by
  refine pgood_of_out 1 (good_of_wp isF10 (Nat.le_refl _) ?_)
  unfold ac10
  simp only [go_sem, simprocAttr, Gr.val]
  intro gid hgid
  simp only [go_sem, simprocAttr]
  refine good_imm (find_ok g down from_ to) rfl ?_
  unfold findVal
  have bnil := refFrom_nil (g := g) (down := down) (node := to)
  have hdef : countOf g down from_ to = if refFrom g down to ≠ [] ∧ (0 ≤ from_ ∧ from_ < g.n) ∧ 0 ≤ at0 (refFrom g down to) from_ then
    at0 (cntAll g (nextOf g down (refFrom g down to)) (sortNd (refFrom g down to) (g.n.toNat - 1) (nodesOf g (nextOf g down (refFrom g down to)) from_)) ((List.replicate g.n.toNat 0).set from_.toNat 1)) to else 0 := rfl
  generalize refFrom g down to = b at *
  by_cases hc : b ≠ [] ∧ (0 ≤ from_ ∧ from_ < g.n) ∧ 0 ≤ at0 b from_
  case neg =>
    rw [if_neg hc] at hdef ⊢
    simp only [go_sem, simprocAttr]
    intro wid hwid
    simp only [go_sem, simprocAttr]
    rw [hdef]; exact out_sc
  rw [if_pos hc] at hdef ⊢
  obtain ⟨hb, hn, hge⟩ := hc
  have gb : g.check.2 = 0 ∧ 0 ≤ to ∧ to < g.n := Decidable.byContradiction fun h => hb (bnil.2 h)
  obtain ⟨k1, k2, k3, k4⟩ := g.check_ok.1 gb.1
  have hok : g.Ok := ⟨k1, k2, k3, k4⟩
  have hnx : ∀ at_ e, e ∈ nextOf g down b at_ → 0 ≤ (g.ends e).2.1 ∧ (g.ends e).2.1 < g.n := fun at_ e he => (nextOf_mem hok he).2.2.1
  have hnxe : ∀ at_ e, e ∈ nextOf g down b at_ → e < 9223372036854775808 := fun at_ e he => by have := (nextOf_mem hok he).1; omega
  have hnxl : ∀ at_, (nextOf g down b at_).length ≤ 240 := fun at_ => by
    unfold nextOf
    split
    · exact Nat.le_trans (List.length_filter_le _ _) (by have := g.out_len at_; omega)
    · simp
  generalize nextOf g down b = nx at *
  have hfin := nodesOf_fin (nx := nx) hn hnx
  have hlen := vfin_len hfin
  generalize nodesOf g nx from_ = N at *
  have hperm := sortNd_perm (far := b) (k := g.n.toNat - 1) (nodes := N) (fun x hx => by have := hfin.rng x hx; omega)
  have hml : ∀ x ∈ sortNd b (g.n.toNat - 1) N, x ∈ N := fun x hx => hperm.mem_iff.1 hx
  have hsl := hperm.length_eq
  generalize sortNd b (g.n.toNat - 1) N = S at *
  simp only [go_sem, simprocAttr]
  intro wid hwid
  have a1 : gid ≠ wid := fun e => by rw [← e] at hwid; simp at hwid
  have p1 : (0 : Int) ≤ g.n := by omega
  have p2 : g.n ≤ 9223372036854775807 := by omega
  have p3 : g.n.toNat * 8 ≤ 281474976710656 := by omega
  simp only [go_sem, simprocAttr, rowAt_ne a1, p1, p2, p3]
  intro nid hnid
  have a2 : gid ≠ nid := fun e => by rw [← e, Store.get_set_ne _ _ a1] at hnid; simp at hnid
  have a3 : wid ≠ nid := fun e => by rw [← e] at hnid; simp at hnid
  have hz : List.replicate g.n.toNat [AVal.sc (.int .i64 0)] = ints (List.replicate g.n.toNat 0) := (ints_rep _ _).symm
  have q0 := hn.1
  have q1 : from_ < (g.n.toNat : Int) := by omega
  have q2 : from_.toNat < g.n.toNat := by omega
  have x2 : (ints (List.replicate g.n.toNat 0))[from_.toNat]? = some [.sc (.int .i64 0)] := ints_get (by simp [q2])
  have hset : (ints (List.replicate g.n.toNat 0)).set from_.toNat [AVal.sc (.int .i64 1)] = ints ((List.replicate g.n.toNat 0).set from_.toNat 1) := (ints_set _ _ _).symm
  rw [hz]
  simp only [go_sem, simprocAttr, q0, q1, x2, hset, rowAt_ne a3]
  have ok0 : CntOk g ((List.replicate g.n.toNat (0 : Int)).set from_.toNat 1) := ⟨by simp, fun x hx => by
    rcases List.mem_or_eq_of_mem_set hx with h | h
    · have := (List.mem_replicate.1 h).2; omega
    · omega⟩
  generalize (List.replicate g.n.toNat (0 : Int)).set from_.toNat 1 = n0 at *
  let I : Nat → Fr → Store → Prop := fun m fr τ => ∃ (i : Nat) (n : List Int), i ≤ S.length ∧ m = S.length - i ∧ fr = [(3, .i to), (4, .ptr gid 0 0 0), (9, .ptr wid 0 0 0), (10, .sl nid 0 0 g.n.toNat 1), (33, .lst (ints S)), (34, .i S.length), (35, .i i)] ∧
    τ.get gid = some (.row 0 false 2 [[.sc (.int .i64 g.n), .lst (g.ls.map Lk.row)]]) ∧ τ.get wid = some (.row 0 false 3 [[.lst (ints S), .lst (nextRows nx N g.n.toNat), .sc (.bool true)]]) ∧ τ.get nid = some (.row 0 false 1 (ints n)) ∧ CntOk g n ∧ n = cntAll g nx (S.take i) n0
  refine loop_rule I _ ⟨0, n0, by omega, rfl, rfl, by simp [Store.get_set, a1, a2], by simp [Store.get_set, a3], by simp, ok0, rfl⟩ ?_
  clear hnid hwid hgid hset x2 hz
  rintro m fr τ ⟨i, n, hi, rfl, rfl, g1, g2, g3, hcn, heq⟩
  simp only [go_sem, simprocAttr]
  refine .intro (fun hil => ?_) (fun hil => ?_)
  · have hil' : i < S.length := by omega
    have x1 : (ints S)[i]? = some [.sc (.int .i64 S[i])] := ints_get (List.getElem?_eq_getElem hil')
    have hmem := hml _ (List.getElem_mem hil')
    have htake : cntAll g nx (S.take (i + 1)) n0 = (nx S[i]).foldl (cntStep g S[i]) n := by
      rw [List.take_succ_eq_append_getElem hil', heq]; unfold cntAll; rw [List.foldl_append]; rfl
    generalize S[i] = at_ at *
    have hat := hfin.rng at_ hmem
    have r1 : at_.toNat < g.n.toNat := by omega
    have r2 : at_ < (g.n.toNat : Int) := by omega
    have r3 := hat.1
    have x3 := nextRows_get nx N hat.1 r1
    rw [if_pos hmem] at x3
    have n4 : (0 : Int) ≤ i := by omega
    have x3l : at_ < ((nextRows nx N g.n.toNat).length : Nat) := by rw [nextRows_len]; exact r2
    simp only [go_sem, simprocAttr, n4, x1, rowAt_get g2, r3, x3l, x3]
    have hl240 := hnxl at_
    have hends := hnx at_
    have hendse := hnxe at_
    generalize nx at_ = l at *
    let J : Nat → Fr → Store → Prop := fun m fr τ => ∃ (j : Nat) (n2 : List Int), j ≤ l.length ∧ m = l.length - j ∧ fr = [(3, .i to), (4, .ptr gid 0 0 0), (9, .ptr wid 0 0 0), (10, .sl nid 0 0 g.n.toNat 1), (12, .i at_), (33, .lst (ints S)), (34, .i S.length), (35, .i i), (43, .lst (ints l)), (44, .i l.length), (45, .i j)] ∧
      τ.get gid = some (.row 0 false 2 [[.sc (.int .i64 g.n), .lst (g.ls.map Lk.row)]]) ∧ τ.get wid = some (.row 0 false 3 [[.lst (ints S), .lst (nextRows nx N g.n.toNat), .sc (.bool true)]]) ∧ τ.get nid = some (.row 0 false 1 (ints n2)) ∧ CntOk g n2 ∧ n2 = (l.take j).foldl (cntStep g at_) n
    refine loop_rule J _ ⟨0, n, by omega, rfl, rfl, g1, g2, g3, hcn, rfl⟩ ?_
    rintro m fr τ2 ⟨j, n2, hj, rfl, rfl, u1, u2, u3, hcn2, heq2⟩
    simp only [go_sem, simprocAttr]
    refine .intro (fun hjl => ?_) (fun hjl => ?_)
    · have hjl' : j < l.length := by omega
      have x4 : (ints l)[j]? = some [.sc (.int .i64 l[j])] := ints_get (List.getElem?_eq_getElem hjl')
      have htake2 : (l.take (j + 1)).foldl (cntStep g at_) n = cntStep g at_ n2 l[j] := by
        rw [List.take_succ_eq_append_getElem hjl', List.foldl_append, heq2]; rfl
      have he := hends l[j] (List.getElem_mem hjl')
      have hee := hendse l[j] (List.getElem_mem hjl')
      generalize l[j] = e at *
      have n5 : (0 : Int) ≤ j := by omega
      simp only [go_sem, simprocAttr, n5, x4, rowAt_get u1]
      refine good_imm (ends_ok g e hee) rfl ?_
      have r4 : (g.ends e).2.1.toNat < n2.length := by rw [hcn2.1]; omega
      have r5 : (g.ends e).2.1 < (g.n.toNat : Int) := by omega
      have r6 := he.1
      have hst := hcn2.step hat he
      have b1 := hcn2.at hat.1 hat.2
      have b2 := hcn2.at he.1 he.2
      unfold cntStep at htake2 hst
      generalize (g.ends e).2.1 = c at *
      have x5 : (ints n2)[c.toNat]? = some [.sc (.int .i64 (at0 n2 c))] := ints_get (by simp [r4])
      have x6 : (ints n2)[at_.toNat]? = some [.sc (.int .i64 (at0 n2 at_))] := mem_at0 hcn2.1 hat.1 hat.2
      have w1 : IntKind.i64.wrap (at0 n2 c + at0 n2 at_) = at0 n2 c + at0 n2 at_ := wrap_id (by omega) (by omega)
      have w4 : IntKind.i64.wrap ((j : Int) + 1) = ((j + 1 : Nat) : Int) := by rw [wrap_id (by omega) (by omega)]; rfl
      simp only [go_sem, simprocAttr]
      unfold op10_56
      simp only [go_sem, simprocAttr, rowAt_get u3, r5, r6, r2, r3, x5, x6, w1, w4]
      have hrs : ∀ x, (ints n2).set c.toNat [AVal.sc (.int .i64 x)] = ints (n2.set c.toNat x) := fun x => (ints_set _ _ _).symm
      rw [hrs]
      refine back_of (l.length - (j + 1)) (Nat.sub_lt_sub_left hjl' (Nat.lt_succ_self j)) ⟨j + 1, _, hjl', rfl, rfl, ?_, ?_, by simp, hst, htake2.symm⟩
      · rw [Store.get_set_ne _ _ a2, u1]
      · rw [Store.get_set_ne _ _ a3, u2]
    · have e : j = l.length := by omega
      subst e
      rw [List.take_length] at heq2
      have w4 : IntKind.i64.wrap ((i : Int) + 1) = ((i + 1 : Nat) : Int) := by rw [wrap_id (by omega) (by omega)]; rfl
      simp only [go_sem, simprocAttr, w4]
      exact back_of (S.length - (i + 1)) (Nat.sub_lt_sub_left hil' (Nat.lt_succ_self i)) ⟨i + 1, n2, hil', rfl, rfl, u1, u2, u3, hcn2, by rw [htake, heq2]⟩
  · have e : i = S.length := by omega
    subst e
    rw [List.take_length] at heq
    have r1 : to < (g.n.toNat : Int) := by omega
    have r2 := gb.2.1
    have x1 := mem_at0 hcn.1 gb.2.1 gb.2.2
    simp only [go_sem, simprocAttr, rowAt_get g3, r1, r2, x1]
    rw [hdef, ← heq]
    exact out_sc
end Go.Proofs

set_option linter.unusedSimpArgs false
set_option linter.unusedVariables false
namespace Go.Proofs
open Go.Ab

def hopF (s : List Int) (c a : Int) : Int := if at0 s a + 1 < at0 s c then at0 s a + 1 else at0 s c
def hopM (s : List Int) (c a : Int) : Int := if at0 s c < at0 s a + 1 then at0 s a + 1 else at0 s c
def hopStep (g : Gr) (at_ : Int) (s : List Int × List Int) (e : Int) : List Int × List Int := (s.1.set (g.ends e).2.1.toNat (hopF s.1 (g.ends e).2.1 at_), s.2.set (g.ends e).2.1.toNat (hopM s.2 (g.ends e).2.1 at_))
def hopAll (g : Gr) (nx : Int → List Int) (nodes : List Int) (s : List Int × List Int) : List Int × List Int := nodes.foldl (fun n at_ => (nx at_).foldl (hopStep g at_) n) s
def hop0 (g : Gr) (from_ : Int) : List Int × List Int := ((List.replicate g.n.toNat g.n).set from_.toNat 0, List.replicate g.n.toNat 0)
def hopsOf (g : Gr) (down : List Bool) (from_ to : Int) : Int × Int × Bool :=
  if refFrom g down to ≠ [] ∧ (0 ≤ from_ ∧ from_ < g.n) ∧ 0 ≤ at0 (refFrom g down to) from_ then
    (at0 (hopAll g (nextOf g down (refFrom g down to)) (sortNd (refFrom g down to) (g.n.toNat - 1) (nodesOf g (nextOf g down (refFrom g down to)) from_)) (hop0 g from_)).1 to,
     at0 (hopAll g (nextOf g down (refFrom g down to)) (sortNd (refFrom g down to) (g.n.toNat - 1) (nodesOf g (nextOf g down (refFrom g down to)) from_)) (hop0 g from_)).2 to, true) else (0, 0, false)
structure HopOk (g : Gr) (k : Nat) (s : List Int × List Int) : Prop where
  l1 : s.1.length = g.n.toNat
  l2 : s.2.length = g.n.toNat
  b1 : ∀ x ∈ s.1, 0 ≤ x ∧ x ≤ g.n
  b2 : ∀ x ∈ s.2, 0 ≤ x ∧ x ≤ k
theorem HopOk.at1 {g : Gr} {k : Nat} {s : List Int × List Int} (h : HopOk g k s) {v : Int} (h0 : 0 ≤ v) (h1 : v < g.n) : 0 ≤ at0 s.1 v ∧ at0 s.1 v ≤ g.n := by
  have : v.toNat < s.1.length := by rw [h.l1]; omega
  exact h.b1 _ (by simp [this])
theorem HopOk.at2 {g : Gr} {k : Nat} {s : List Int × List Int} (h : HopOk g k s) {v : Int} (h0 : 0 ≤ v) (h1 : v < g.n) : 0 ≤ at0 s.2 v ∧ at0 s.2 v ≤ k := by
  have : v.toNat < s.2.length := by rw [h.l2]; omega
  exact h.b2 _ (by simp [this])
theorem HopOk.step {g : Gr} {k : Nat} {s : List Int × List Int} (h : HopOk g k s) {at_ e : Int} (ha : 0 ≤ at_ ∧ at_ < g.n) (he : 0 ≤ (g.ends e).2.1 ∧ (g.ends e).2.1 < g.n) : HopOk g (k + 1) (hopStep g at_ s e) := by
  have h1 := h.at1 ha.1 ha.2
  have h2 := h.at1 he.1 he.2
  have h3 := h.at2 ha.1 ha.2
  have h4 := h.at2 he.1 he.2
  refine ⟨by simpa [hopStep] using h.l1, by simpa [hopStep] using h.l2, fun x hx => ?_, fun x hx => ?_⟩
  · rcases List.mem_or_eq_of_mem_set hx with hx | hx
    · exact h.b1 x hx
    · rw [hx]; unfold hopF; split <;> omega
  · rcases List.mem_or_eq_of_mem_set hx with hx | hx
    · have := h.b2 x hx; omega
    · rw [hx]; unfold hopM; split <;> omega
theorem HopOk.mono {g : Gr} {k k' : Nat} {s : List Int × List Int} (h : HopOk g k s) (hk : k ≤ k') : HopOk g k' s := ⟨h.l1, h.l2, h.b1, fun x hx => by have := h.b2 x hx; omega⟩
theorem wrap_small {x : Int} (h0 : 0 ≤ x) (h1 : x ≤ 1000000000) : IntKind.i64.wrap (x + 1) = x + 1 := wrap_id (by omega) (by omega)
theorem hops_ok (g : Gr) (down : List Bool) (from_ to : Int) : PGood Try.prog 9 [g.val, .lst (bools down), .i from_, .i to] (.tup [.i (hopsOf g down from_ to).1, .i (hopsOf g down from_ to).2.1, .b (hopsOf g down from_ to).2.2]) := by
  refine pgood_of_out 2 (good_of_wp isF9 (Nat.le_refl _) ?_)
  unfold ac9
  simp only [go_sem, simprocAttr, Gr.val]
  intro gid hgid
  simp only [go_sem, simprocAttr]
  refine good_imm (find_ok g down from_ to) rfl ?_
  unfold findVal
  have bnil := refFrom_nil (g := g) (down := down) (node := to)
  have hdef : hopsOf g down from_ to = if refFrom g down to ≠ [] ∧ (0 ≤ from_ ∧ from_ < g.n) ∧ 0 ≤ at0 (refFrom g down to) from_ then
    (at0 (hopAll g (nextOf g down (refFrom g down to)) (sortNd (refFrom g down to) (g.n.toNat - 1) (nodesOf g (nextOf g down (refFrom g down to)) from_)) (hop0 g from_)).1 to,
     at0 (hopAll g (nextOf g down (refFrom g down to)) (sortNd (refFrom g down to) (g.n.toNat - 1) (nodesOf g (nextOf g down (refFrom g down to)) from_)) (hop0 g from_)).2 to, true) else (0, 0, false) := rfl
  generalize refFrom g down to = b at *
  by_cases hc : b ≠ [] ∧ (0 ≤ from_ ∧ from_ < g.n) ∧ 0 ≤ at0 b from_
  case neg =>
    rw [if_neg hc] at hdef ⊢
    simp only [go_sem, simprocAttr]
    intro wid hwid
    simp only [go_sem, simprocAttr]
    rw [hdef]; exact out_tup3 out_sc out_sc out_sc
  rw [if_pos hc] at hdef ⊢
  obtain ⟨hb, hn, hge⟩ := hc
  have gb : g.check.2 = 0 ∧ 0 ≤ to ∧ to < g.n := Decidable.byContradiction fun h => hb (bnil.2 h)
  obtain ⟨k1, k2, k3, k4⟩ := g.check_ok.1 gb.1
  have hok : g.Ok := ⟨k1, k2, k3, k4⟩
  have hnx : ∀ at_ e, e ∈ nextOf g down b at_ → 0 ≤ (g.ends e).2.1 ∧ (g.ends e).2.1 < g.n := fun at_ e he => (nextOf_mem hok he).2.2.1
  have hnxe : ∀ at_ e, e ∈ nextOf g down b at_ → e < 9223372036854775808 := fun at_ e he => by have := (nextOf_mem hok he).1; omega
  have hnxl : ∀ at_, (nextOf g down b at_).length ≤ 240 := fun at_ => by
    unfold nextOf
    split
    · exact Nat.le_trans (List.length_filter_le _ _) (by have := g.out_len at_; omega)
    · simp
  generalize nextOf g down b = nx at *
  have hfin := nodesOf_fin (nx := nx) hn hnx
  have hlen := vfin_len hfin
  generalize nodesOf g nx from_ = N at *
  have hperm := sortNd_perm (far := b) (k := g.n.toNat - 1) (nodes := N) (fun x hx => by have := hfin.rng x hx; omega)
  have hml : ∀ x ∈ sortNd b (g.n.toNat - 1) N, x ∈ N := fun x hx => hperm.mem_iff.1 hx
  have hsl := hperm.length_eq
  generalize sortNd b (g.n.toNat - 1) N = S at *
  simp only [go_sem, simprocAttr]
  intro wid hwid
  have a1 : gid ≠ wid := fun e => by rw [← e] at hwid; simp at hwid
  have p1 : (0 : Int) ≤ g.n := by omega
  have p2 : g.n ≤ 9223372036854775807 := by omega
  have p3 : g.n.toNat * 8 ≤ 281474976710656 := by omega
  simp only [go_sem, simprocAttr]
  unfold op9_30
  simp only [go_sem, simprocAttr, rowAt_ne a1, p1, p2, p3]
  intro nid hnid
  have a2 : gid ≠ nid := fun e => by rw [← e, Store.get_set_ne _ _ a1] at hnid; simp at hnid
  have a3 : wid ≠ nid := fun e => by rw [← e] at hnid; simp at hnid
  simp only [go_sem, simprocAttr, rowAt_ne a1, rowAt_ne a2, p1, p2, p3]
  intro mid hmid
  have a4 : gid ≠ mid := fun e => by rw [← e, Store.get_set_ne _ _ a2, Store.get_set_ne _ _ a1] at hmid; simp at hmid
  have a5 : wid ≠ mid := fun e => by rw [← e, Store.get_set_ne _ _ a3] at hmid; simp at hmid
  have a6 : nid ≠ mid := fun e => by rw [← e] at hmid; simp at hmid
  have hz : List.replicate g.n.toNat [AVal.sc (.int .i64 0)] = ints (List.replicate g.n.toNat 0) := (ints_rep _ _).symm
  rw [hz]
  simp only [go_sem, simprocAttr]
  let H : Nat → Fr → Store → Prop := fun m fr τ => ∃ (i : Nat), i ≤ g.n.toNat ∧ m = g.n.toNat - i ∧ fr = [(2, .i from_), (3, .i to), (4, .ptr gid 0 0 0), (11, .ptr wid 0 0 0), (12, .sl nid 0 0 g.n.toNat 1), (13, .sl mid 0 0 g.n.toNat 1), (37, .i g.n.toNat), (38, .i i)] ∧
    τ.get gid = some (.row 0 false 2 [[.sc (.int .i64 g.n), .lst (g.ls.map Lk.row)]]) ∧ τ.get wid = some (.row 0 false 3 [[.lst (ints S), .lst (nextRows nx N g.n.toNat), .sc (.bool true)]]) ∧ τ.get nid = some (.row 0 false 1 (ints (List.replicate i g.n ++ List.replicate (g.n.toNat - i) 0))) ∧ τ.get mid = some (.row 0 false 1 (ints (List.replicate g.n.toNat 0)))
  refine loop_rule H g.n.toNat ⟨0, by omega, by omega, rfl, by simp [Store.get_set, a1, a2, a4], by simp [Store.get_set, a3, a5], by simp [Store.get_set, a6], by simp⟩ ?_
  clear hmid hnid hwid hgid hz
  rintro m fr τ ⟨i, hi, rfl, rfl, g1, g2, g3, g4⟩
  simp only [go_sem, simprocAttr]
  refine .intro (fun h => ?_) (fun h => ?_)
  · have hi' : i < (List.replicate i g.n ++ List.replicate (g.n.toNat - i) 0).length := by simp; omega
    have x2 := ints_get (List.getElem?_eq_getElem hi')
    have n4 : (0 : Int) ≤ i := by omega
    have n5 : (i : Int) < g.n.toNat := by omega
    have hig : i < g.n.toNat := by omega
    have w1 : IntKind.i64.wrap ((i : Int) + 1) = ((i + 1 : Nat) : Int) := by rw [wrap_id (by omega) (by omega)]; rfl
    simp only [go_sem, simprocAttr, n4, n5, rowAt_get g3, rowAt_get g1, x2, w1]
    refine back_of (g.n.toNat - (i + 1)) (Nat.sub_lt_sub_left hig (Nat.lt_succ_self i)) ⟨i + 1, hig, rfl, rfl, ?_, ?_, ?_, ?_⟩
    · rw [Store.get_set_ne _ _ a2, g1]
    · rw [Store.get_set_ne _ _ a3, g2]
    · rw [Store.get_set_self, ← fill_step hig, ints_set]
    · rw [Store.get_set_ne _ _ (fun e => a6 e.symm), g4]
  have ei : i = g.n.toNat := by omega
  subst ei
  rw [Nat.sub_self, List.replicate_zero, List.append_nil] at g3
  have q0 := hn.1
  have q1 : from_ < (g.n.toNat : Int) := by omega
  have q2 : from_.toNat < g.n.toNat := by omega
  have x2 : (ints (List.replicate g.n.toNat g.n))[from_.toNat]? = some [.sc (.int .i64 g.n)] := ints_get (by simp [q2])
  have hset : (ints (List.replicate g.n.toNat g.n)).set from_.toNat [AVal.sc (.int .i64 0)] = ints ((List.replicate g.n.toNat g.n).set from_.toNat 0) := (ints_set _ _ _).symm
  simp only [go_sem, simprocAttr, q0, q1, x2, hset, rowAt_get g3]
  have gw2 : (τ.set nid (.row 0 false 1 (ints ((List.replicate g.n.toNat g.n).set from_.toNat 0)))).get wid = some (.row 0 false 3 [[.lst (ints S), .lst (nextRows nx N g.n.toNat), .sc (.bool true)]]) := by rw [Store.get_set_ne _ _ a3, g2]
  simp only [go_sem, simprocAttr, rowAt_get gw2]
  have ok0 : HopOk g 0 (hop0 g from_) := ⟨by simp [hop0], by simp [hop0], fun x hx => by
    rcases List.mem_or_eq_of_mem_set hx with h | h
    · have := (List.mem_replicate.1 h).2; omega
    · omega, fun x hx => by have := (List.mem_replicate.1 hx).2; omega⟩
  have e1 : (List.replicate g.n.toNat g.n).set from_.toNat 0 = (hop0 g from_).1 := rfl
  have e2 : List.replicate g.n.toNat 0 = (hop0 g from_).2 := rfl
  rw [e1] at gw2 ⊢
  rw [e2] at g4
  generalize hop0 g from_ = n0 at *
  let I : Nat → Fr → Store → Prop := fun m fr τ => ∃ (i : Nat) (n : List Int × List Int), i ≤ S.length ∧ m = S.length - i ∧ fr = [(3, .i to), (4, .ptr gid 0 0 0), (11, .ptr wid 0 0 0), (12, .sl nid 0 0 g.n.toNat 1), (13, .sl mid 0 0 g.n.toNat 1), (51, .lst (ints S)), (52, .i S.length), (53, .i i)] ∧
    τ.get gid = some (.row 0 false 2 [[.sc (.int .i64 g.n), .lst (g.ls.map Lk.row)]]) ∧ τ.get wid = some (.row 0 false 3 [[.lst (ints S), .lst (nextRows nx N g.n.toNat), .sc (.bool true)]]) ∧ τ.get nid = some (.row 0 false 1 (ints n.1)) ∧ τ.get mid = some (.row 0 false 1 (ints n.2)) ∧ HopOk g (i * 240) n ∧ n = hopAll g nx (S.take i) n0
  refine loop_rule I S.length ⟨0, n0, by omega, rfl, rfl, by rw [Store.get_set_ne _ _ a2, g1], gw2, by simp, by rw [Store.get_set_ne _ _ (fun e => a6 e.symm), g4], by simpa using ok0, rfl⟩ ?_
  clear gw2 g1 g2 g3 g4 e1 e2 x2 hset hi h
  rintro m fr τ ⟨i, n, hi, rfl, rfl, g1, g2, g3, g4, hcn, heq⟩
  simp only [go_sem, simprocAttr]
  refine .intro (fun hil => ?_) (fun hil => ?_)
  · have hil' : i < S.length := by omega
    have x1 : (ints S)[i]? = some [.sc (.int .i64 S[i])] := ints_get (List.getElem?_eq_getElem hil')
    have hmem := hml _ (List.getElem_mem hil')
    have htake : hopAll g nx (S.take (i + 1)) n0 = (nx S[i]).foldl (hopStep g S[i]) n := by
      rw [List.take_succ_eq_append_getElem hil', heq]; unfold hopAll; rw [List.foldl_append]; rfl
    generalize S[i] = at_ at *
    have hat := hfin.rng at_ hmem
    have r1 : at_.toNat < g.n.toNat := by omega
    have r2 : at_ < (g.n.toNat : Int) := by omega
    have r3 := hat.1
    have x3 := nextRows_get nx N hat.1 r1
    rw [if_pos hmem] at x3
    have n4 : (0 : Int) ≤ i := by omega
    have x3l : at_ < ((nextRows nx N g.n.toNat).length : Nat) := by rw [nextRows_len]; exact r2
    simp only [go_sem, simprocAttr, n4, x1, rowAt_get g2, r3, x3l, x3]
    have hl240 := hnxl at_
    have hends := hnx at_
    have hendse := hnxe at_
    generalize nx at_ = l at *
    let J : Nat → Fr → Store → Prop := fun m fr τ => ∃ (j : Nat) (n2 : List Int × List Int), j ≤ l.length ∧ m = l.length - j ∧ fr = [(3, .i to), (4, .ptr gid 0 0 0), (11, .ptr wid 0 0 0), (12, .sl nid 0 0 g.n.toNat 1), (13, .sl mid 0 0 g.n.toNat 1), (16, .i at_), (51, .lst (ints S)), (52, .i S.length), (53, .i i), (61, .lst (ints l)), (62, .i l.length), (63, .i j)] ∧
      τ.get gid = some (.row 0 false 2 [[.sc (.int .i64 g.n), .lst (g.ls.map Lk.row)]]) ∧ τ.get wid = some (.row 0 false 3 [[.lst (ints S), .lst (nextRows nx N g.n.toNat), .sc (.bool true)]]) ∧ τ.get nid = some (.row 0 false 1 (ints n2.1)) ∧ τ.get mid = some (.row 0 false 1 (ints n2.2)) ∧ HopOk g (i * 240 + j) n2 ∧ n2 = (l.take j).foldl (hopStep g at_) n
    refine loop_rule J _ ⟨0, n, by omega, rfl, rfl, g1, g2, g3, g4, by simpa using hcn, rfl⟩ ?_
    rintro m fr τ2 ⟨j, n2, hj, rfl, rfl, u1, u2, u3, u4, hcn2, heq2⟩
    simp only [go_sem, simprocAttr]
    refine .intro (fun hjl => ?_) (fun hjl => ?_)
    · have hjl' : j < l.length := by omega
      have x4 : (ints l)[j]? = some [.sc (.int .i64 l[j])] := ints_get (List.getElem?_eq_getElem hjl')
      have htake2 : (l.take (j + 1)).foldl (hopStep g at_) n = hopStep g at_ n2 l[j] := by
        rw [List.take_succ_eq_append_getElem hjl', List.foldl_append, heq2]; rfl
      have he := hends l[j] (List.getElem_mem hjl')
      have hee := hendse l[j] (List.getElem_mem hjl')
      generalize l[j] = e at *
      have n5 : (0 : Int) ≤ j := by omega
      simp only [go_sem, simprocAttr, n5, x4, rowAt_get u1]
      refine good_imm (ends_ok g e hee) rfl ?_
      have r4 : (g.ends e).2.1.toNat < n2.1.length := by rw [hcn2.l1]; omega
      have r5 : (g.ends e).2.1 < (g.n.toNat : Int) := by omega
      have r6 := he.1
      have hst := hcn2.step hat he
      have b1 := hcn2.at1 hat.1 hat.2
      have b2 := hcn2.at1 he.1 he.2
      have b3 := hcn2.at2 hat.1 hat.2
      have b4 := hcn2.at2 he.1 he.2
      unfold hopStep at htake2 hst
      generalize (g.ends e).2.1 = c at *
      have x5 := mem_at0 hcn2.l1 he.1 he.2
      have x6 := mem_at0 hcn2.l1 hat.1 hat.2
      have x7 := mem_at0 hcn2.l2 he.1 he.2
      have x8 := mem_at0 hcn2.l2 hat.1 hat.2
      have hi40 : i ≤ 40 := by omega
      have hj40 : i * 240 + j ≤ 1000000 := by omega
      have w1 := wrap_small b1.1 (by omega)
      have w2 := wrap_small b3.1 (by omega)
      have w4 : IntKind.i64.wrap ((j : Int) + 1) = ((j + 1 : Nat) : Int) := by rw [wrap_id (by omega) (by omega)]; rfl
      have hrs : ∀ x, (ints n2.1).set c.toNat [AVal.sc (.int .i64 x)] = ints (n2.1.set c.toNat x) := fun x => (ints_set _ _ _).symm
      have hrs2 : ∀ x, (ints n2.2).set c.toNat [AVal.sc (.int .i64 x)] = ints (n2.2.set c.toNat x) := fun x => (ints_set _ _ _).symm
      have umx : ∀ o, Ab.rowAt (τ2.set nid o) mid 0 = some (false, 1, ints n2.2) := fun o => by rw [rowAt_ne (fun e => a6 e.symm), rowAt_get u4]
      simp only [go_sem, simprocAttr]
      unfold op9_74
      simp only [go_sem, simprocAttr, rowAt_get u3, rowAt_get u4, umx, r5, r6, r2, r3, x5, x6, x7, x8, w1, w2, w4, hrs, hrs2]
      refine back_of (l.length - (j + 1)) (Nat.sub_lt_sub_left hjl' (Nat.lt_succ_self j)) ⟨j + 1, _, hjl', rfl, rfl, ?_, ?_, ?_, ?_, (by rw [← Nat.add_assoc]; exact hst), htake2.symm⟩
      · rw [Store.get_set_ne _ _ a4, Store.get_set_ne _ _ a2, u1]
      · rw [Store.get_set_ne _ _ a5, Store.get_set_ne _ _ a3, u2]
      · rw [Store.get_set_ne _ _ a6, Store.get_set_self]; rfl
      · rw [Store.get_set_self]; rfl
    · have e : j = l.length := by omega
      subst e
      rw [List.take_length] at heq2
      have w4 : IntKind.i64.wrap ((i : Int) + 1) = ((i + 1 : Nat) : Int) := by rw [wrap_id (by omega) (by omega)]; rfl
      simp only [go_sem, simprocAttr, w4]
      have hk : i * 240 + l.length ≤ (i + 1) * 240 := by omega
      have hcn3 : HopOk g ((i + 1) * 240) n2 := hcn2.mono hk
      exact back_of (S.length - (i + 1)) (Nat.sub_lt_sub_left hil' (Nat.lt_succ_self i)) ⟨i + 1, n2, hil', rfl, rfl, u1, u2, u3, u4, hcn3, by rw [htake, heq2]⟩
  · have e : i = S.length := by omega
    subst e
    rw [List.take_length] at heq
    have r1 : to < (g.n.toNat : Int) := by omega
    have r2 := gb.2.1
    have x1 := mem_at0 hcn.l1 gb.2.1 gb.2.2
    have x2 := mem_at0 hcn.l2 gb.2.1 gb.2.2
    simp only [go_sem, simprocAttr]
    unfold op9_102
    simp only [go_sem, simprocAttr, rowAt_get g3, rowAt_get g4, r1, r2, x1, x2]
    rw [hdef, ← heq]
    exact out_tup3 out_sc out_sc out_sc
end Go.Proofs

set_option linter.unusedSimpArgs false
set_option linter.unusedVariables false
namespace Go.Proofs
open Go.Ab

def sortI (l : List Int) : List Int := l.mergeSort fun x y => decide (x ≤ y)
theorem sortI_len (l : List Int) : (sortI l).length = l.length := by simp [sortI]
def flatN (nx : Int → List Int) (N : List Int) (n : Nat) : List Int := (List.range n).flatMap fun (i : Nat) => if (i : Int) ∈ N then nx i else []
theorem flatN_succ (nx : Int → List Int) (N : List Int) (n : Nat) : flatN nx N (n + 1) = flatN nx N n ++ (if (n : Int) ∈ N then nx n else []) := by
  unfold flatN
  rw [List.range_succ, List.flatMap_append]
  simp
theorem flatN_len {nx : Int → List Int} {N : List Int} (h : ∀ x, (nx x).length ≤ 240) : ∀ n, (flatN nx N n).length ≤ n * 240
  | 0 => by simp [flatN]
  | n + 1 => by
    rw [flatN_succ, List.length_append]
    have := flatN_len (N := N) h n
    have h2 := h n
    split
    · omega
    · simp only [List.length_nil]; omega
def dusesOf (g : Gr) (down : List Bool) (from_ to : Int) : List Int :=
  if refFrom g down to ≠ [] ∧ (0 ≤ from_ ∧ from_ < g.n) ∧ 0 ≤ at0 (refFrom g down to) from_ then
    sortI (flatN (nextOf g down (refFrom g down to)) (nodesOf g (nextOf g down (refFrom g down to)) from_) g.n.toNat) else []

theorem blw_refl (w : World) : Blw w.heap.size w w := ⟨RowKit.Below.refl _ _, Nat.le_refl _⟩
theorem sort_acc {σ : Store} {v : AVal} {l : List Int} {others : List Nat} (h : Acc σ 1 v (ints l) others) (hl : l.length < 1000000000) {Q : AVal → Store → Prop}
    (hQ : ∀ σ', Acc σ' 1 v (ints (sortI l)) others → (∀ j ∈ others, σ'.get j = σ.get j) → Q (.tup []) σ') : Ab.Good Try.prog 23 [v] σ Q := by
  have hb : HasBody Try.prog 23 := ⟨_, Try.func23, rfl, by kernel_rfl⟩
  have hnone : ∀ p cap w, Calls Try.prog 23 #[.slice p 0 cap] w fun e w' => e = .returned (.tuple #[]) ∧ Blw w.heap.size w w' := fun p cap w => (Try.slices_Sort_int_none p cap w).mono fun e w' ⟨h1, h2⟩ => ⟨h1, by rw [h2]; exact blw_refl w⟩
  rcases h.2 with ⟨rfl, hr⟩ | ⟨id, ver, off, xs, rfl, h2, h3, h4, h5⟩
  · have e : l = [] := by
      cases l with
      | nil => rfl
      | cons a r => simp [ints] at hr
    subst e
    exact good_sort_nil hb hnone (hQ σ (by simpa [sortI] using h) (fun _ _ => rfl))
  · rw [ints_len] at h4 h5
    have := good_sort (P := Try.prog) (f := 23) (τ := Int) (σ := σ) (fun x => .int .i64 x) (fun _ => rfl) (fun d => (sortI d.toList).toArray) (fun d => by simp [sortI_len]) hb
      (fun blk off cap d w hH hb hs => by
        have := Try.slices_Sort_int blk off cap d.toList w (by simpa using hH) hb (by simpa using hs)
        rw [Array.length_toList] at this
        exact this)
      hnone (id := id) (ver := ver) (off := off) (rows := xs) h2 l.toArray (by simpa using h4) (by simp; omega) (by simp only [List.size_toArray]; rw [h5]; rfl) (Q := Q) ?_
    · rw [ints_len]; simpa using this
    · simp only [List.size_toArray]
      refine hQ _ ⟨h.1.set _ _, .inr ⟨id, ver, off, _, by rw [ints_len, ints_len, sortI_len], rowAt_self, h3, ?_, ?_⟩⟩ fun j hj => Store.get_set_ne _ _ (fun e => h3 (e ▸ hj))
      · simp only [List.length_append, List.length_take, List.length_drop, ints_len, List.length_map, sortI_len]; omega
      · rw [List.append_assoc, List.drop_append_of_le_length (by simp; omega), List.drop_of_length_le (by simp; omega), List.nil_append, List.take_left']
        · rfl
        · rfl

theorem duses_ok (g : Gr) (down : List Bool) (from_ to : Int) : PGood Try.prog 12 [g.val, .lst (bools down), .i from_, .i to] (.lst (ints (dusesOf g down from_ to))) := by
  refine pgood_of_out 3 (good_of_wp isF12 (Nat.le_refl _) ?_)
  unfold ac12
  simp only [go_sem, simprocAttr, Gr.val]
  intro gid hgid
  simp only [go_sem, simprocAttr]
  refine good_imm (find_ok g down from_ to) rfl ?_
  unfold findVal
  have bnil := refFrom_nil (g := g) (down := down) (node := to)
  have hdef : dusesOf g down from_ to = if refFrom g down to ≠ [] ∧ (0 ≤ from_ ∧ from_ < g.n) ∧ 0 ≤ at0 (refFrom g down to) from_ then
    sortI (flatN (nextOf g down (refFrom g down to)) (nodesOf g (nextOf g down (refFrom g down to)) from_) g.n.toNat) else [] := rfl
  generalize refFrom g down to = b at *
  by_cases hc : b ≠ [] ∧ (0 ≤ from_ ∧ from_ < g.n) ∧ 0 ≤ at0 b from_
  case neg =>
    rw [if_neg hc] at hdef ⊢
    simp only [go_sem, simprocAttr]
    refine loop_rule (fun m fr τ => fr = [(9, .nils), (17, .nils), (18, .i 0), (19, .i 0)]) 0 rfl ?_
    rintro m fr τ rfl
    simp only [go_sem, simprocAttr]
    refine sort_acc (l := []) (others := []) (acc_nils alive_nil) (by simp) fun τ6 c1 c2 => ?_
    simp only [go_sem, simprocAttr]
    rw [hdef]; exact out_nils
  rw [if_pos hc] at hdef ⊢
  obtain ⟨hb, hn, hge⟩ := hc
  have gb : g.check.2 = 0 ∧ 0 ≤ to ∧ to < g.n := Decidable.byContradiction fun h => hb (bnil.2 h)
  obtain ⟨k1, k2, k3, k4⟩ := g.check_ok.1 gb.1
  have hnxl : ∀ at_, (nextOf g down b at_).length ≤ 240 := fun at_ => by
    unfold nextOf
    split
    · exact Nat.le_trans (List.length_filter_le _ _) (by have := g.out_len at_; omega)
    · simp
  generalize nextOf g down b = nx at *
  generalize nodesOf g nx from_ = N at *
  generalize sortNd b (g.n.toNat - 1) N = S at *
  simp only [go_sem, simprocAttr]
  have hrl := nextRows_len nx N g.n.toNat
  refine loop_rule (fun m fr τ => ∃ (i : Nat) (v : AVal), i ≤ g.n.toNat ∧ m = g.n.toNat - i ∧ fr = [(9, v), (17, .lst (nextRows nx N g.n.toNat)), (18, .i (g.n.toNat : Nat)), (19, .i i)] ∧ Acc τ 1 v (ints (flatN nx N i)) []) g.n.toNat
    ⟨0, .nils, by omega, rfl, by rw [hrl]; rfl, acc_nils alive_nil⟩ ?_
  rintro m fr τ ⟨i, v, hi, rfl, rfl, acc⟩
  simp only [go_sem, simprocAttr, hrl]
  refine .intro (fun hil => ?_) (fun hil => ?_)
  · have n4 : (0 : Int) ≤ i := by omega
    have n5 : i < g.n.toNat := by omega
    have x1 := nextRows_get nx N (x := (i : Int)) n4 (n := g.n.toNat) (by simpa using n5)
    have w4 : IntKind.i64.wrap ((i : Int) + 1) = ((i + 1 : Nat) : Int) := by rw [wrap_id (by omega) (by omega)]; rfl
    have hil2 : (i : Int) < ((nextRows nx N g.n.toNat).length : Nat) := by rw [hrl]; exact hil
    have hfl := flatN_len (N := N) hnxl i
    have hni := hnxl i
    have hsucc := flatN_succ nx N i
    rw [Int.toNat_natCast] at x1
    simp only [go_sem, simprocAttr, n4, hil2, x1]
    by_cases hm : (i : Int) ∈ N
    · rw [if_pos hm] at hsucc
      simp only [go_sem, simprocAttr, hm]
      refine acc_append acc (by simp only [ints_len]; omega) (by simp only [ints_len]; omega) fun v' σ' c1 c2 => ?_
      rw [← ints_app, ← hsucc] at c1
      simp only [go_sem, simprocAttr, w4]
      exact back_of (g.n.toNat - (i + 1)) (by omega) ⟨i + 1, v', n5, rfl, rfl, c1⟩
    · rw [if_neg hm, List.append_nil] at hsucc
      simp only [go_sem, simprocAttr, hm]
      have hnil : wpRes Try.prog (appendA τ 1 8 v []) _ τ := acc_append (K := fun v' σ' => v' = v' ∧ Acc σ' 1 v' (ints (flatN nx N i)) []) acc (by simp only [ints_len, List.length_nil]; omega) (by simp only [ints_len, List.length_nil]; omega) fun v' σ' c1 c2 => ⟨rfl, by simpa using c1⟩
      refine wpRes_mono (fun v' σ' hv => ?_) hnil
      obtain ⟨_, c1⟩ := hv
      simp only [go_sem, simprocAttr, w4]
      exact back_of (g.n.toNat - (i + 1)) (by omega) ⟨i + 1, v', n5, rfl, rfl, by rw [hsucc]; exact c1⟩
  · have e : i = g.n.toNat := by omega
    subst e
    have hfl := flatN_len (N := N) hnxl g.n.toNat
    simp only [go_sem, simprocAttr]
    refine sort_acc acc (by omega) fun τ6 c1 c2 => ?_
    simp only [go_sem, simprocAttr]
    rw [hdef]
    exact acc_out c1 (ints_sc _)
end Go.Proofs

set_option linter.unusedSimpArgs false
set_option linter.unusedVariables false
namespace Go.Proofs
open Go.Ab

/-! ### Sums over lists: a list, but for its order -/
def sm {α : Type} (φ : α → Nat) : List α → Nat
  | [] => 0
  | x :: r => φ x + sm φ r
theorem sm_app {α : Type} (φ : α → Nat) : ∀ (l m : List α), sm φ (l ++ m) = sm φ l + sm φ m
  | [], m => by simp [sm]
  | x :: r, m => by simp only [List.cons_append, sm, sm_app φ r m]; omega
theorem sm_map {α β : Type} (φ : β → Nat) (h : α → β) : ∀ (l : List α), sm φ (l.map h) = sm (fun x => φ (h x)) l
  | [] => rfl
  | x :: r => by simp only [List.map_cons, sm, sm_map φ h r]
theorem sm_flat {α β : Type} (φ : β → Nat) (h : α → List β) : ∀ (l : List α), sm φ (l.flatMap h) = sm (fun x => sm φ (h x)) l
  | [] => rfl
  | x :: r => by simp only [List.flatMap_cons, sm_app, sm, sm_flat φ h r]
theorem sm_congr {α : Type} {φ ψ : α → Nat} : ∀ {l : List α}, (∀ x ∈ l, φ x = ψ x) → sm φ l = sm ψ l
  | [], _ => rfl
  | x :: r, h => by simp only [sm]; rw [h x (by simp), sm_congr fun y hy => h y (by simp [hy])]
theorem sm_add {α : Type} (φ ψ : α → Nat) : ∀ (l : List α), sm (fun x => φ x + ψ x) l = sm φ l + sm ψ l
  | [] => rfl
  | x :: r => by simp only [sm, sm_add φ ψ r]; omega
theorem sm_zero {α : Type} : ∀ (l : List α), sm (fun _ => 0) l = 0
  | [] => rfl
  | x :: r => by simp only [sm, sm_zero r]
theorem sm_swap {α β : Type} (φ : α → β → Nat) (m : List β) : ∀ (l : List α), sm (fun x => sm (fun y => φ x y) m) l = sm (fun y => sm (fun x => φ x y) l) m
  | [] => by simp only [sm]; rw [sm_zero]
  | x :: r => by simp only [sm, sm_swap φ m r]; rw [sm_add]
theorem sm_one {α : Type} : ∀ (l : List α), sm (fun _ => 1) l = l.length
  | [] => rfl
  | x :: r => by simp only [sm, sm_one r, List.length_cons]; omega
theorem sm_pos {k : Nat} : ∀ (l : List Nat), 0 < sm (fun x => if x = k then 1 else 0) l ↔ k ∈ l
  | [] => by simp [sm]
  | x :: r => by
    simp only [sm, List.mem_cons]
    have := sm_pos (k := k) r
    by_cases h : x = k
    · rw [if_pos h]; constructor
      · intro _; exact .inl h.symm
      · intro _; omega
    · rw [if_neg h, Nat.zero_add, this]
      constructor
      · exact .inr
      · rintro (h2 | h2)
        · exact absurd h2.symm h
        · exact h2
/-- One of them is another one. -/
theorem sm_upd {α : Type} [DecidableEq α] (φ ψ : α → Nat) (b : α) (k : Nat) (h1 : ψ b = φ b + k) (h2 : ∀ x, x ≠ b → ψ x = φ x) : ∀ (l : List α), l.Nodup → b ∈ l → sm ψ l = sm φ l + k
  | [], _, h => by cases h
  | x :: r, hn, h => by
    obtain ⟨n1, n2⟩ := List.nodup_cons.1 hn
    simp only [sm]
    by_cases e : x = b
    · subst e
      rw [h1, sm_congr (φ := ψ) (ψ := φ) fun y hy => h2 y fun e => n1 (e ▸ hy)]; omega
    · rw [h2 x e]
      have hb : b ∈ r := by
        rcases List.mem_cons.1 h with h | h
        · exact absurd h.symm e
        · exact h
      rw [sm_upd φ ψ b k h1 h2 r n2 hb]; omega
def Eqv (l m : List Nat) : Prop := ∀ φ : Nat → Nat, sm φ l = sm φ m
theorem Eqv.len {l m : List Nat} (h : Eqv l m) : l.length = m.length := by have := h fun _ => 1; rwa [sm_one, sm_one] at this
theorem Eqv.mem {l m : List Nat} (h : Eqv l m) (k : Nat) : k ∈ l ↔ k ∈ m := by rw [← sm_pos, ← sm_pos, h]

/-! ### The least and the greatest -/
def lo (n : Nat) (l : List Nat) : Nat := l.foldr min n
def hi (l : List Nat) : Nat := l.foldr max 0
theorem lo_le (n : Nat) : ∀ l : List Nat, lo n l ≤ n
  | [] => Nat.le_refl _
  | x :: r => by have := lo_le n r; simp only [lo, List.foldr_cons] at *; omega
theorem lo_mem (n : Nat) : ∀ (l : List Nat) {k : Nat}, k ∈ l → lo n l ≤ k
  | x :: r, k, h => by
    simp only [lo, List.foldr_cons]
    rcases List.mem_cons.1 h with h | h
    · subst h; omega
    · have := lo_mem n r h; simp only [lo] at this; omega
theorem lo_in (n : Nat) : ∀ (l : List Nat), lo n l = n ∨ lo n l ∈ l
  | [] => .inl rfl
  | x :: r => by
    have := lo_in n r
    simp only [lo, List.foldr_cons] at *
    by_cases h : x ≤ List.foldr min n r
    · right; rw [Nat.min_eq_left h]; simp
    · rw [Nat.min_eq_right (by omega)]
      rcases this with h | h
      · exact .inl h
      · exact .inr (by simp [h])
theorem hi_mem : ∀ (l : List Nat) {k : Nat}, k ∈ l → k ≤ hi l
  | x :: r, k, h => by
    simp only [hi, List.foldr_cons]
    rcases List.mem_cons.1 h with h | h
    · subst h; omega
    · have := hi_mem r h; simp only [hi] at this; omega
theorem hi_in : ∀ (l : List Nat), l ≠ [] → hi l ∈ l
  | [], h => absurd rfl h
  | [x], _ => by simp [hi]
  | x :: y :: r, _ => by
    have := hi_in (y :: r) (by simp)
    simp only [hi, List.foldr_cons] at *
    by_cases h : max y (List.foldr max 0 r) ≤ x
    · rw [Nat.max_eq_left h]; simp
    · rw [Nat.max_eq_right (by omega)]; exact List.mem_cons_of_mem _ this
theorem lo_app (n : Nat) (l m : List Nat) : lo n (l ++ m) = min (lo n l) (lo n m) := by
  induction l with
  | nil => have := lo_le n m; simp only [lo, List.nil_append, List.foldr_nil] at *; omega
  | cons x r ih => simp only [lo, List.cons_append, List.foldr_cons] at *; omega
theorem hi_app (l m : List Nat) : hi (l ++ m) = max (hi l) (hi m) := by
  induction l with
  | nil => simp [hi]
  | cons x r ih => simp only [hi, List.cons_append, List.foldr_cons] at *; omega
theorem lo_succ (n : Nat) (l : List Nat) : lo n (l.map (· + 1)) = min n (lo n l + 1) := by
  induction l with
  | nil => simp [lo]
  | cons x r ih => simp only [lo, List.map_cons, List.foldr_cons] at *; omega
theorem hi_succ (l : List Nat) (h : l ≠ []) : hi (l.map (· + 1)) = hi l + 1 := by
  induction l with
  | nil => exact absurd rfl h
  | cons x r ih =>
    by_cases hr : r = []
    · subst hr; simp [hi]
    · have := ih hr
      simp only [hi, List.map_cons, List.foldr_cons] at *; omega
theorem lo_eqv {n : Nat} {l m : List Nat} (h : Eqv l m) : lo n l = lo n m := by
  have key : ∀ {l m : List Nat}, Eqv l m → lo n m ≤ lo n l := fun {l m} h => by
    rcases lo_in n l with e | e
    · rw [e]; exact lo_le n m
    · exact lo_mem n m ((h.mem _).1 e)
  have h1 := key h
  have h2 := key (l := m) (m := l) fun φ => (h φ).symm
  omega
theorem hi_eqv {l m : List Nat} (h : Eqv l m) : hi l = hi m := by
  have key : ∀ {l m : List Nat}, Eqv l m → hi l ≤ hi m := fun {l m} h => by
    by_cases e : l = []
    · subst e; simp [hi]
    · exact hi_mem m ((h.mem _).1 (hi_in l e))
  have h1 := key h
  have h2 := key (l := m) (m := l) fun φ => (h φ).symm
  omega

/-! ### How many edges the shortest ways to the end have -/
def bk (g : Gr) (down : List Bool) (d : List Int) : Nat → Int → List Nat
  | 0, _ => [0]
  | N + 1, v => if at0 d v ≤ 0 then [0] else (nextOf g down d v).flatMap fun e => (bk g down d N (g.ends e).2.1).map (· + 1)
theorem flatMap_congr' {α β : Type} {f h : α → List β} : ∀ {l : List α}, (∀ x ∈ l, f x = h x) → l.flatMap f = l.flatMap h
  | [], _ => rfl
  | x :: r, e => by rw [List.flatMap_cons, List.flatMap_cons, e x (by simp), flatMap_congr' fun y hy => e y (by simp [hy])]
theorem bk_fuel {g : Gr} (hg : g.Ok) {down : List Bool} {d : List Int} : ∀ (k N M : Nat) (v : Int), (at0 d v).toNat ≤ k → k ≤ N → k ≤ M → bk g down d N v = bk g down d M v := by
  intro k
  induction k with
  | zero =>
    intro N M v hv _ _
    have h : at0 d v ≤ 0 := by omega
    have key : ∀ N, bk g down d N v = [0] := fun N => by
      cases N with
      | zero => rfl
      | succ N => unfold bk; rw [if_pos h]
    rw [key N, key M]
  | succ k ih =>
    intro N M v hv hN hM
    obtain ⟨N, rfl⟩ : ∃ n, N = n + 1 := ⟨N - 1, by omega⟩
    obtain ⟨M, rfl⟩ : ∃ n, M = n + 1 := ⟨M - 1, by omega⟩
    unfold bk
    by_cases h : at0 d v ≤ 0
    · rw [if_pos h, if_pos h]
    · rw [if_neg h, if_neg h]
      refine flatMap_congr' fun e he => ?_
      obtain ⟨_, _, _, e5, e6, e7, _⟩ := nextOf_mem hg he
      rw [ih N M _ (by omega) (by omega) (by omega)]
def bks (g : Gr) (down : List Bool) (d : List Int) (v : Int) : List Nat := bk g down d (at0 d v).toNat v
theorem bks_zero {g : Gr} {down : List Bool} {d : List Int} {v : Int} (h : at0 d v ≤ 0) : bks g down d v = [0] := by
  unfold bks
  rw [show (at0 d v).toNat = 0 by omega]
  rfl
theorem bks_step {g : Gr} (hg : g.Ok) {down : List Bool} {d : List Int} {v : Int} (h : 0 < at0 d v) : bks g down d v = (nextOf g down d v).flatMap fun e => (bks g down d (g.ends e).2.1).map (· + 1) := by
  have e : bks g down d v = bk g down d ((at0 d v).toNat - 1 + 1) v := by unfold bks; rw [show (at0 d v).toNat - 1 + 1 = (at0 d v).toNat by omega]
  rw [e]
  unfold bk
  rw [if_neg (by omega)]
  refine flatMap_congr' fun e he => ?_
  obtain ⟨_, _, _, e5, e6, e7, _⟩ := nextOf_mem hg he
  rw [bk_fuel hg _ _ (at0 d (g.ends e).2.1).toNat _ (Nat.le_refl _) (by omega) (Nat.le_refl _)]
  rfl
end Go.Proofs

set_option linter.unusedSimpArgs false
set_option linter.unusedVariables false
namespace Go.Proofs
open Go.Ab

/-! ### An edge the other way -/
def rev (e : Int) : Int := e + 1 - 2 * (e % 2)
theorem rev_ends (g : Gr) {e : Int} (h0 : 0 ≤ e) (h1 : e < 2 * (g.ls.length : Int)) : 0 ≤ rev e ∧ rev e < 2 * (g.ls.length : Int) ∧ (g.ends (rev e)).1 = (g.ends e).2.1 ∧ (g.ends (rev e)).2.1 = (g.ends e).1 ∧ g.metric (rev e) = g.metric e ∧ rev e / 2 = e / 2 := by
  have hd : rev e / 2 = e / 2 := by unfold rev; omega
  have h2 : 0 ≤ rev e := by unfold rev; omega
  have h3 : rev e < 2 * (g.ls.length : Int) := by unfold rev; omega
  have hlt : (e / 2).toNat < g.ls.length := by omega
  have key : ∀ x, 0 ≤ x → x < 2 * (g.ls.length : Int) → x / 2 = e / 2 → g.ends x = if x % 2 = 1 then ((g.ls[(e / 2).toNat]).b, (g.ls[(e / 2).toNat]).a, true) else ((g.ls[(e / 2).toNat]).a, (g.ls[(e / 2).toNat]).b, true) := fun x x0 x1 hx => by
    unfold Gr.ends
    rw [if_neg (by omega), hx, List.getElem?_eq_getElem hlt]
  have k1 := key e h0 h1 rfl
  have k2 := key (rev e) h2 h3 hd
  refine ⟨h2, h3, ?_, ?_, by unfold Gr.metric; rw [hd], hd⟩
  · rw [k1, k2]
    by_cases h : e % 2 = 1
    · rw [if_pos h, if_neg (by unfold rev; omega)]
    · rw [if_neg h, if_pos (by unfold rev; omega)]
  · rw [k1, k2]
    by_cases h : e % 2 = 1
    · rw [if_pos h, if_neg (by unfold rev; omega)]
    · rw [if_neg h, if_pos (by unfold rev; omega)]
theorem rev_up {g : Gr} {down : List Bool} {e : Int} (h0 : 0 ≤ e) (h1 : e < 2 * (g.ls.length : Int)) : isUp down (rev e) = isUp down e := by
  obtain ⟨_, _, _, _, _, h⟩ := rev_ends g h0 h1
  unfold isUp
  rw [h]
theorem mem_nextOf {g : Gr} (hg : g.Ok) {down : List Bool} {d : List Int} (hl : d.length = g.n.toNat) {v e : Int} (hv : 0 ≤ v ∧ v < g.n) (h0 : 0 < at0 d v) (e0 : 0 ≤ e) (e1 : e < 2 * (g.ls.length : Int)) (h1 : (g.ends e).1 = v) (hu : isUp down e = true)
    (h2 : 0 ≤ at0 d (g.ends e).2.1) (h3 : at0 d v = at0 d (g.ends e).2.1 + g.metric e) : e ∈ nextOf g down d v := by
  unfold nextOf
  rw [if_pos ⟨g.check_ok.2 hg, by have := hg.2.1; omega, hv, h0⟩, List.mem_filter]
  refine ⟨g.out_mem e0 e1 h1, ?_⟩
  unfold nextCond
  rw [hu, decide_eq_true h2, decide_eq_true h3]; rfl
/-- From each node that is not the end an edge leads on. -/
theorem next_some {g : Gr} (hg : g.Ok) {down : List Bool} {to : Int} {d : List Int} (hd : IsDist g down to d) {v : Int} (hv : 0 ≤ v ∧ v < g.n) (h0 : 0 ≤ at0 d v) : v = to ∧ at0 d v = 0 ∨ ∃ e, e ∈ nextOf g down d v := by
  rcases hd.reach v hv.1 hv.2 h0 with h | ⟨k, ⟨k0, k1, k2⟩, h1, h2, h3⟩
  · exact .inl h
  · obtain ⟨r1, r2, r3, r4, r5, r6⟩ := rev_ends g k0 k1
    obtain ⟨m1, _⟩ := g.metric_of hg k0 k1
    refine .inr ⟨rev k, mem_nextOf hg hd.len hv (by omega) r1 r2 (by rw [r3, h1]) (by rw [rev_up (g := g) k0 k1]; exact k2) (by rw [r4]; exact h2) (by rw [r4, r5]; exact h3)⟩
theorem bks_ne {g : Gr} (hg : g.Ok) {down : List Bool} {to : Int} {d : List Int} (hd : IsDist g down to d) : ∀ (k : Nat) (v : Int), (at0 d v).toNat ≤ k → 0 ≤ v ∧ v < g.n → 0 ≤ at0 d v → bks g down d v ≠ [] := by
  intro k
  induction k with
  | zero => intro v hv hr h0; rw [bks_zero (by omega)]; simp
  | succ k ih =>
    intro v hv hr h0
    by_cases h : at0 d v ≤ 0
    · rw [bks_zero h]; simp
    · rcases next_some hg hd hr h0 with h1 | ⟨e, he⟩
      · omega
      · obtain ⟨_, _, e4, e5, e6, e7, _⟩ := nextOf_mem hg he
        have := ih (g.ends e).2.1 (by omega) e4 e5
        obtain ⟨x, hx⟩ := List.exists_mem_of_ne_nil _ this
        rw [bks_step hg (by omega)]
        intro hnil
        have : x + 1 ∈ (nextOf g down d v).flatMap fun e => (bks g down d (g.ends e).2.1).map (· + 1) := List.mem_flatMap.2 ⟨e, he, List.mem_map.2 ⟨x, hx, rfl⟩⟩
        rw [hnil] at this
        cases this

/-! ### A shortest way is no longer than there are nodes -/
theorem countP_lt {α : Type} {p q : α → Bool} {x : α} (h : ∀ y, p y = true → q y = true) (hx : q x = true) (hn : p x = false) : ∀ l : List α, x ∈ l → l.countP p < l.countP q
  | y :: r, hm => by
    have hle : r.countP p ≤ r.countP q := List.countP_mono_left fun z _ hz => h z hz
    by_cases e : y = x
    · subst e
      rw [List.countP_cons_of_neg (by rw [hn]; simp), List.countP_cons_of_pos hx]; omega
    · have hm' : x ∈ r := by
        rcases List.mem_cons.1 hm with h | h
        · exact absurd h.symm e
        · exact h
      have ih := countP_lt h hx hn r hm'
      by_cases hp : p y = true
      · rw [List.countP_cons_of_pos hp, List.countP_cons_of_pos (h y hp)]; omega
      · rw [List.countP_cons_of_neg hp]
        by_cases hq : q y = true
        · rw [List.countP_cons_of_pos hq]; omega
        · rw [List.countP_cons_of_neg hq]; exact ih
def below (g : Gr) (d : List Int) (x : Int) : Nat := (List.range g.n.toNat).countP fun (i : Nat) => decide (0 ≤ at0 d (i : Int) ∧ at0 d (i : Int) ≤ x)
theorem below_le (g : Gr) (d : List Int) (x : Int) : below g d x ≤ g.n.toNat := by
  have := List.countP_le_length (p := fun (i : Nat) => decide (0 ≤ at0 d (i : Int) ∧ at0 d (i : Int) ≤ x)) (l := List.range g.n.toNat)
  simpa [below] using this
theorem below_lt {g : Gr} {d : List Int} {v x : Int} (hv : 0 ≤ v ∧ v < g.n) (h0 : 0 ≤ at0 d v) (hx : x < at0 d v) : below g d x < below g d (at0 d v) := by
  have e : ((v.toNat : Nat) : Int) = v := by omega
  refine countP_lt (x := v.toNat) (fun y hy => ?_) ?_ ?_ _ (List.mem_range.2 (by omega))
  · simp only [decide_eq_true_eq] at hy ⊢; omega
  · simp only [decide_eq_true_eq]; rw [e]; omega
  · simp only [decide_eq_false_iff_not]; rw [e]; omega
theorem bks_le {g : Gr} (hg : g.Ok) {down : List Bool} {d : List Int} : ∀ (k : Nat) (v : Int), (at0 d v).toNat ≤ k → 0 ≤ v ∧ v < g.n → 0 ≤ at0 d v → ∀ x ∈ bks g down d v, x < below g d (at0 d v) := by
  intro k
  induction k with
  | zero =>
    intro v hv hr h0 x hx
    rw [bks_zero (by omega)] at hx
    have : x = 0 := by simpa using hx
    have := below_lt hr h0 (x := at0 d v - 1) (by omega)
    omega
  | succ k ih =>
    intro v hv hr h0 x hx
    by_cases h : at0 d v ≤ 0
    · rw [bks_zero h] at hx
      have : x = 0 := by simpa using hx
      have := below_lt hr h0 (x := at0 d v - 1) (by omega)
      omega
    · rw [bks_step hg (by omega)] at hx
      obtain ⟨e, he, hx⟩ := List.mem_flatMap.1 hx
      obtain ⟨y, hy, rfl⟩ := List.mem_map.1 hx
      obtain ⟨_, _, e4, e5, e6, e7, _⟩ := nextOf_mem hg he
      have h1 := ih (g.ends e).2.1 (by omega) e4 e5 y hy
      have h2 := below_lt hr h0 (x := at0 d (g.ends e).2.1) (by omega)
      omega

/-! ### What the reference counts -/
def cap (k : Nat) : Int := if (k : Int) < 1099511627776 then (k : Int) else 1099511627776
theorem cutS_cap (a b : Nat) : cutS (cap a + cap b) = cap (a + b) := by
  unfold cutS cap
  by_cases h1 : (a : Int) < 1099511627776
  · by_cases h2 : (b : Int) < 1099511627776
    · rw [if_pos h1, if_pos h2, if_neg (by omega)]
      by_cases h3 : ((a + b : Nat) : Int) < 1099511627776
      · rw [if_pos h3, if_neg (by omega)]; omega
      · rw [if_neg h3]
        by_cases h4 : (1099511627776 : Int) < (a : Int) + b
        · rw [if_pos h4]
        · rw [if_neg h4]; omega
    · rw [if_pos h1, if_neg h2, if_neg (by omega), if_neg (c := ((a + b : Nat) : Int) < 1099511627776) (by omega)]
      by_cases h4 : (1099511627776 : Int) < (a : Int) + 1099511627776
      · rw [if_pos h4]
      · rw [if_neg h4]; omega
  · rw [if_neg h1, if_neg (c := ((a + b : Nat) : Int) < 1099511627776) (by omega)]
    by_cases h2 : (b : Int) < 1099511627776
    · rw [if_pos h2, if_neg (by omega)]
      by_cases h4 : (1099511627776 : Int) < 1099511627776 + (b : Int)
      · rw [if_pos h4]
      · rw [if_neg h4]; omega
    · rw [if_neg h2, if_neg (by omega), if_pos (by omega)]
theorem ways_cap {g : Gr} {P : Int → Int} {B : Int → List Nat} (l : List Int) : ∀ (a b : Nat), (∀ e ∈ l, P (g.ends e).2.1 = cap (B (g.ends e).2.1).length) → b = a + (l.flatMap fun e => (B (g.ends e).2.1).map (· + 1)).length → l.foldl (waysStep P g) (cap a) = cap b := by
  induction l with
  | nil =>
    intro a b _ hb
    have e : b = a := by simpa using hb
    rw [e, List.foldl_nil]
  | cons e r ih =>
    intro a b h hb
    have h1 : waysStep P g (cap a) e = cap (a + (B (g.ends e).2.1).length) := by
      unfold waysStep
      rw [h e List.mem_cons_self, cutS_cap]
    rw [List.flatMap_cons, List.length_append, List.length_map] at hb
    rw [List.foldl_cons, h1]
    exact ih _ b (fun x hx => h x (List.mem_cons_of_mem _ hx)) (by omega)
theorem few_lo {g : Gr} {F : Int → Int} {B : Int → List Nat} {n : Nat} : ∀ (l : List Int) (s : Nat), (∀ e ∈ l, F (g.ends e).2.1 = (lo n (B (g.ends e).2.1) : Nat) ∧ lo n (B (g.ends e).2.1) < n) → s ≤ n →
    (l.foldl (fewStep F g) (false, (s : Int))).2 = ((min s (lo n (l.flatMap fun e => (B (g.ends e).2.1).map (· + 1))) : Nat) : Int)
  | [], s, _, hs => by simp [lo]; omega
  | e :: r, s, h, hs => by
    obtain ⟨h1, h2⟩ := h e (by simp)
    have h3 : fewStep F g (false, (s : Int)) e = (false, ((min s (lo n (B (g.ends e).2.1) + 1) : Nat) : Int)) := by
      unfold fewStep
      simp only [h1, Bool.false_eq_true, false_or]
      congr 1
      split <;> omega
    rw [List.foldl_cons, h3, few_lo r _ (fun x hx => h x (by simp [hx])) (by omega), List.flatMap_cons, lo_app, lo_succ]
    omega
theorem many_hi {g : Gr} {M : Int → Int} {B : Int → List Nat} : ∀ (l : List Int) (s : Nat), (∀ e ∈ l, M (g.ends e).2.1 = (hi (B (g.ends e).2.1) : Nat) ∧ B (g.ends e).2.1 ≠ []) →
    l.foldl (manyStep M g) (s : Int) = ((max s (hi (l.flatMap fun e => (B (g.ends e).2.1).map (· + 1))) : Nat) : Int)
  | [], s, _ => by simp [hi]
  | e :: r, s, h => by
    obtain ⟨h1, h2⟩ := h e (by simp)
    have h3 : manyStep M g (s : Int) e = ((max s (hi (B (g.ends e).2.1) + 1) : Nat) : Int) := by
      unfold manyStep
      rw [h1]
      split <;> omega
    rw [List.foldl_cons, h3, many_hi r _ (fun x hx => h x (by simp [hx])), List.flatMap_cons, hi_app, hi_succ _ h2]
    congr 1
    omega
theorem cnt_bks {g : Gr} (hg : g.Ok) {down : List Bool} {to : Int} {d : List Int} (hd : IsDist g down to d) : ∀ (k : Nat) (v : Int), (at0 d v).toNat ≤ k → 0 ≤ v ∧ v < g.n → 0 ≤ at0 d v →
    cP g down d v = cap (bks g down d v).length ∧ cF g down d v = (lo g.n.toNat (bks g down d v) : Nat) ∧ cM g down d v = (hi (bks g down d v) : Nat) := by
  intro k
  have n1 := hg.2.1
  have zero : ∀ v, 0 ≤ at0 d v → at0 d v ≤ 0 → cP g down d v = cap (bks g down d v).length ∧ cF g down d v = (lo g.n.toNat (bks g down d v) : Nat) ∧ cM g down d v = (hi (bks g down d v) : Nat) := fun v h0 h => by
    have e := cntOf_zero (g := g) (down := down) h
    unfold cP cF cM
    rw [e, bks_zero h]
    exact ⟨rfl, by simp [lo], rfl⟩
  induction k with
  | zero => intro v hv hr h0; exact zero v h0 (by omega)
  | succ k ih =>
    intro v hv hr h0
    by_cases h : at0 d v ≤ 0
    · exact zero v h0 h
    have e := cntOf_step hg (down := down) (d := d) (v := v) (by omega)
    have key : ∀ e ∈ nextOf g down d v, (cP g down d (g.ends e).2.1 = cap (bks g down d (g.ends e).2.1).length) ∧ (cF g down d (g.ends e).2.1 = (lo g.n.toNat (bks g down d (g.ends e).2.1) : Nat) ∧ lo g.n.toNat (bks g down d (g.ends e).2.1) < g.n.toNat) ∧
        (cM g down d (g.ends e).2.1 = (hi (bks g down d (g.ends e).2.1) : Nat) ∧ bks g down d (g.ends e).2.1 ≠ []) := fun e he => by
      obtain ⟨_, _, e4, e5, e6, e7, _⟩ := nextOf_mem hg he
      obtain ⟨p1, p2, p3⟩ := ih (g.ends e).2.1 (by omega) e4 e5
      have hne := bks_ne hg hd _ (g.ends e).2.1 (Nat.le_refl _) e4 e5
      refine ⟨p1, ⟨p2, ?_⟩, p3, hne⟩
      obtain ⟨x, hx⟩ := List.exists_mem_of_ne_nil _ hne
      have h1 := lo_mem g.n.toNat _ hx
      have h2 := bks_le hg (down := down) _ (g.ends e).2.1 (Nat.le_refl _) e4 e5 x hx
      have h3 := below_le g d (at0 d (g.ends e).2.1)
      omega
    rw [bks_step hg (by omega)]
    refine ⟨?_, ?_, ?_⟩
    · have : cP g down d v = (nextOf g down d v).foldl (waysStep (cP g down d) g) (cap 0) := by conv => lhs; unfold cP; rw [e]
                                                                                                rfl
      rw [this]
      exact ways_cap (B := bks g down d) _ _ _ (fun e he => (key e he).1) (Nat.zero_add _).symm
    · have : cF g down d v = ((nextOf g down d v).foldl (fewStep (cF g down d) g) (true, 0)).2 := by conv => lhs; unfold cF; rw [e]
      rw [this]
      have hne : nextOf g down d v ≠ [] := fun hnil => by
        rcases next_some hg hd hr h0 with h1 | ⟨e, he⟩
        · omega
        · rw [hnil] at he; cases he
      generalize nextOf g down d v = l at *
      clear e
      cases l with
      | nil => exact absurd rfl hne
      | cons e r =>
        obtain ⟨h1, h2⟩ := (key e (by simp)).2.1
        have h3 : fewStep (cF g down d) g (true, 0) e = (false, ((lo g.n.toNat (bks g down d (g.ends e).2.1) + 1 : Nat) : Int)) := by
          unfold fewStep
          simp only [h1, true_or, if_true]
          rfl
        rw [List.foldl_cons, h3, few_lo (B := bks g down d) r _ (fun x hx => (key x (by simp [hx])).2.1) (by omega), List.flatMap_cons, lo_app, lo_succ]
        congr 1
        omega
    · have : cM g down d v = (nextOf g down d v).foldl (manyStep (cM g down d) g) ((0 : Nat) : Int) := by conv => lhs; unfold cM; rw [e]
                                                                                                          rfl
      rw [this, many_hi (B := bks g down d) _ _ fun e he => (key e he).2.2]
      congr 1
end Go.Proofs

set_option linter.unusedSimpArgs false
set_option linter.unusedVariables false
namespace Go.Proofs
open Go.Ab

def fstep (g : Gr) (at_ : Int) (f : Int → List Nat) (e : Int) : Int → List Nat := fun v => if v = (g.ends e).2.1 then f v ++ (f at_).map (· + 1) else f v
def wt (B : Int → List Nat) (f : Int → List Nat) (φ : Nat → Nat) (v : Int) : Nat := sm (fun a => sm (fun b => φ (a + b)) (B v)) (f v)

theorem cap_add (a b : Nat) : (if cap a + cap b < 1099511627776 then cap a + cap b else 1099511627776) = cap (a + b) := by
  unfold cap
  by_cases h1 : (a : Int) < 1099511627776
  · by_cases h2 : (b : Int) < 1099511627776
    · rw [if_pos h1, if_pos h2]
      by_cases h3 : ((a + b : Nat) : Int) < 1099511627776
      · rw [if_pos h3, if_pos (by omega)]; omega
      · rw [if_neg h3, if_neg (by omega)]
    · rw [if_pos h1, if_neg h2, if_neg (by omega), if_neg (by omega)]
  · rw [if_neg h1, if_neg (c := ((a + b : Nat) : Int) < 1099511627776) (by omega)]
    by_cases h2 : (b : Int) < 1099511627776
    · rw [if_pos h2, if_neg (by omega)]
    · rw [if_neg h2, if_neg (by omega)]

/-- The program's numbers, and the lists that they tell of. -/
structure DRel (g : Gr) (f : Int → List Nat) (n : List Int) (s : List Int × List Int) : Prop where
  ln : n.length = g.n.toNat
  l1 : s.1.length = g.n.toNat
  l2 : s.2.length = g.n.toNat
  c : ∀ v, 0 ≤ v → v < g.n → at0 n v = cap (f v).length
  few : ∀ v, 0 ≤ v → v < g.n → at0 s.1 v = (lo g.n.toNat (f v) : Nat)
  many : ∀ v, 0 ≤ v → v < g.n → at0 s.2 v = (hi (f v) : Nat)

theorem at0_set' {n : List Int} {N : Int} (hl : n.length = N.toNat) {u v x : Int} (hu : 0 ≤ u ∧ u < N) (hv : 0 ≤ v) : at0 (n.set u.toNat x) v = if v = u then x else at0 n v := at0_set hu.1 (by omega) hv

theorem drel_step {g : Gr} {f : Int → List Nat} {n : List Int} {s : List Int × List Int} (h : DRel g f n s) {at_ e : Int} (ha : 0 ≤ at_ ∧ at_ < g.n) (he : 0 ≤ (g.ends e).2.1 ∧ (g.ends e).2.1 < g.n) (hne : f at_ ≠ []) :
    DRel g (fstep g at_ f e) (cntStep g at_ n e) (hopStep g at_ s e) := by
  refine ⟨by simpa [cntStep] using h.ln, by simpa [hopStep] using h.l1, by simpa [hopStep] using h.l2, fun v v0 v1 => ?_, fun v v0 v1 => ?_, fun v v0 v1 => ?_⟩
  · unfold cntStep fstep
    rw [at0_set' h.ln he v0]
    by_cases hv : v = (g.ends e).2.1
    · rw [if_pos hv, if_pos hv, hv, h.c _ he.1 he.2, h.c _ ha.1 ha.2, cap_add]
      congr 1
      simp
    · rw [if_neg hv, if_neg hv, h.c v v0 v1]
  · unfold hopStep fstep hopF
    simp only
    rw [at0_set' h.l1 he v0]
    by_cases hv : v = (g.ends e).2.1
    · rw [if_pos hv, if_pos hv, hv, h.few _ he.1 he.2, h.few _ ha.1 ha.2, lo_app, lo_succ]
      have := lo_le g.n.toNat (f (g.ends e).2.1)
      split <;> omega
    · rw [if_neg hv, if_neg hv, h.few v v0 v1]
  · unfold hopStep fstep hopM
    simp only
    rw [at0_set' h.l2 he v0]
    by_cases hv : v = (g.ends e).2.1
    · rw [if_pos hv, if_pos hv, hv, h.many _ he.1 he.2, h.many _ ha.1 ha.2, hi_app, hi_succ _ hne]
      split <;> omega
    · rw [if_neg hv, if_neg hv, h.many v v0 v1]

theorem wt_step {g : Gr} {B : Int → List Nat} {f : Int → List Nat} {at_ e : Int} {rest : List Int} (hn : rest.Nodup) (hm : (g.ends e).2.1 ∈ rest) (φ : Nat → Nat) :
    sm (wt B (fstep g at_ f e) φ) rest = sm (wt B f φ) rest + sm (fun a => sm (fun b => φ (a + 1 + b)) (B (g.ends e).2.1)) (f at_) := by
  refine sm_upd _ _ (g.ends e).2.1 _ ?_ (fun x hx => ?_) rest hn hm
  · unfold wt fstep
    rw [if_pos rfl, sm_app, sm_map]
  · unfold wt fstep
    rw [if_neg hx]

theorem node_step {g : Gr} {B : Int → List Nat} {at_ : Int} {rest : List Int} (hn : rest.Nodup) (hat : at_ ∉ rest) (har : 0 ≤ at_ ∧ at_ < g.n) : ∀ (l : List Int) (f : Int → List Nat) (n : List Int) (s : List Int × List Int), DRel g f n s → f at_ ≠ [] →
    (∀ e ∈ l, (g.ends e).2.1 ∈ rest ∧ (0 ≤ (g.ends e).2.1 ∧ (g.ends e).2.1 < g.n)) →
    DRel g (l.foldl (fstep g at_) f) (l.foldl (cntStep g at_) n) (l.foldl (hopStep g at_) s) ∧
    (∀ φ, sm (wt B (l.foldl (fstep g at_) f) φ) rest = sm (wt B f φ) rest + sm (fun e => sm (fun a => sm (fun b => φ (a + 1 + b)) (B (g.ends e).2.1)) (f at_)) l) ∧
    (∀ v, f v ≠ [] → l.foldl (fstep g at_) f v ≠ []) ∧ (∀ e ∈ l, l.foldl (fstep g at_) f (g.ends e).2.1 ≠ [])
  | [], f, n, s, hd, hne, hl => ⟨hd, fun φ => by simp [sm], fun v h => h, fun e he => by cases he⟩
  | e :: r, f, n, s, hd, hne, hl => by
    obtain ⟨h1, h2⟩ := hl e (by simp)
    have hself : fstep g at_ f e at_ = f at_ := by
      unfold fstep
      rw [if_neg (fun h => hat (by rw [h]; exact h1))]
    have hd' := drel_step hd har h2 hne
    obtain ⟨k1, k2, k3, k4⟩ := node_step (B := B) hn hat har r (fstep g at_ f e) (cntStep g at_ n e) (hopStep g at_ s e) hd' (by rw [hself]; exact hne) (fun x hx => hl x (by simp [hx]))
    have hkeep : ∀ v, f v ≠ [] → fstep g at_ f e v ≠ [] := fun v hv => by
      unfold fstep
      split
      · intro h; exact hv (List.append_eq_nil_iff.1 h).1
      · exact hv
    have hnew : fstep g at_ f e (g.ends e).2.1 ≠ [] := by
      unfold fstep
      rw [if_pos rfl]
      intro h
      exact hne (List.map_eq_nil_iff.1 (List.append_eq_nil_iff.1 h).2)
    simp only [List.foldl_cons]
    refine ⟨k1, fun φ => ?_, fun v hv => k3 v (hkeep v hv), fun x hx => ?_⟩
    · rw [k2 φ, wt_step hn h1 φ, hself]
      simp only [sm]
      omega
    · rcases List.mem_cons.1 hx with hx | hx
      · rw [hx]; exact k3 _ hnew
      · exact k4 x hx

/-- All nodes in their order. -/
theorem dag_run {g : Gr} (hg : g.Ok) {down : List Bool} {to : Int} {d : List Int} (hd : IsDist g down to d) (goal : List Nat) : ∀ (rest : List Int) (f : Int → List Nat) (n : List Int) (s : List Int × List Int), rest.Nodup →
    rest.Pairwise (fun x y => at0 d y ≤ at0 d x) → (∀ x ∈ rest, (0 ≤ x ∧ x < g.n) ∧ 0 ≤ at0 d x) → (∀ x ∈ rest, ∀ e ∈ nextOf g down d x, (g.ends e).2.1 ∈ rest) →
    (∀ v ∈ rest, f v ≠ [] ∨ ∃ x ∈ rest, ∃ e ∈ nextOf g down d x, (g.ends e).2.1 = v) → DRel g f n s → (∀ φ, sm (wt (bks g down d) f φ) rest = sm φ goal) → to ∈ rest →
    at0 (cntAll g (nextOf g down d) rest n) to = cap goal.length ∧ at0 (hopAll g (nextOf g down d) rest s).1 to = (lo g.n.toNat goal : Nat) ∧ at0 (hopAll g (nextOf g down d) rest s).2 to = (hi goal : Nat) := by
  intro rest
  induction rest with
  | nil => intro f n s _ _ _ _ _ _ _ h; cases h
  | cons at_ rest ih =>
    intro f n s hnd hpw hr hcl hsrc hrel hsum hto
    obtain ⟨n1, n2⟩ := List.nodup_cons.1 hnd
    obtain ⟨p1, p2⟩ := List.pairwise_cons.1 hpw
    obtain ⟨har, ha0⟩ := hr at_ (by simp)
    -- nothing leads to the first
    have hfirst : f at_ ≠ [] := by
      rcases hsrc at_ (by simp) with h | ⟨x, hx, e, he, h⟩
      · exact h
      · obtain ⟨_, _, _, _, e6, e7, _⟩ := nextOf_mem hg he
        rw [h] at e6
        rcases List.mem_cons.1 hx with hx | hx
        · subst hx; omega
        · have := p1 x hx; omega
    have hends : ∀ e ∈ nextOf g down d at_, (g.ends e).2.1 ∈ rest ∧ (0 ≤ (g.ends e).2.1 ∧ (g.ends e).2.1 < g.n) := fun e he => by
      obtain ⟨_, _, e4, _, e6, e7, _⟩ := nextOf_mem hg he
      refine ⟨?_, e4⟩
      rcases List.mem_cons.1 (hcl at_ (by simp) e he) with h | h
      · rw [h] at e6; omega
      · exact h
    obtain ⟨k1, k2, k3, k4⟩ := node_step (B := bks g down d) n2 n1 har (nextOf g down d at_) f n s hrel hfirst hends
    by_cases hat : at_ = to
    · subst hat
      have h0 : at0 d at_ = 0 := hd.src
      have hnx : nextOf g down d at_ = [] := by unfold nextOf; rw [if_neg (fun h => by omega)]
      have hrest : rest = [] := by
        cases rest with
        | nil => rfl
        | cons y r =>
          exfalso
          have hy := p1 y (by simp)
          obtain ⟨hyr, hy0⟩ := hr y (by simp)
          rcases next_some hg hd hyr hy0 with ⟨h1, h2⟩ | ⟨e, he⟩
          · subst h1; exact n1 (by simp)
          · obtain ⟨_, _, _, e5, e6, e7, _⟩ := nextOf_mem hg he
            omega
      subst hrest
      have hq : Eqv (f at_) goal := fun φ => by
        rw [← hsum φ]
        simp only [sm, wt, bks_zero (show at0 d at_ ≤ 0 by omega), Nat.add_zero]
      have e1 : cntAll g (nextOf g down d) [at_] n = n := by simp [cntAll, hnx]
      have e2 : hopAll g (nextOf g down d) [at_] s = s := by simp [hopAll, hnx]
      rw [e1, e2, hrel.c _ har.1 har.2, hrel.few _ har.1 har.2, hrel.many _ har.1 har.2, lo_eqv hq, hi_eqv hq, hq.len]
      exact ⟨rfl, rfl, rfl⟩
    · have hpos : 0 < at0 d at_ := by
        rcases next_some hg hd har ha0 with ⟨h1, h2⟩ | ⟨e, he⟩
        · exact absurd h1 hat
        · obtain ⟨_, _, _, e5, e6, e7, _⟩ := nextOf_mem hg he
          omega
      have hto' : to ∈ rest := by
        rcases List.mem_cons.1 hto with h | h
        · exact absurd h.symm hat
        · exact h
      have := ih ((nextOf g down d at_).foldl (fstep g at_) f) ((nextOf g down d at_).foldl (cntStep g at_) n) ((nextOf g down d at_).foldl (hopStep g at_) s) n2 p2 (fun x hx => hr x (by simp [hx])) (fun x hx e he => ?_) (fun v hv => ?_) k1 (fun φ => ?_) hto'
      · exact this
      · obtain ⟨_, _, _, _, e6, e7, _⟩ := nextOf_mem hg he
        have := p1 x hx
        rcases List.mem_cons.1 (hcl x (by simp [hx]) e he) with h | h
        · rw [h] at e6; omega
        · exact h
      · rcases hsrc v (by simp [hv]) with h | ⟨x, hx, e, he, h⟩
        · exact .inl (k3 v h)
        · rcases List.mem_cons.1 hx with hx | hx
          · subst hx
            refine .inl ?_
            rw [← h]; exact k4 e he
          · exact .inr ⟨x, hx, e, he, h⟩
      · rw [k2 φ, ← hsum φ]
        simp only [sm]
        have hw : wt (bks g down d) f φ at_ = sm (fun e => sm (fun a => sm (fun b => φ (a + 1 + b)) (bks g down d (g.ends e).2.1)) (f at_)) (nextOf g down d at_) := by
          unfold wt
          rw [bks_step hg hpos, sm_swap (fun e a => sm (fun b => φ (a + 1 + b)) (bks g down d (g.ends e).2.1)) (f at_) (nextOf g down d at_)]
          refine sm_congr fun a _ => ?_
          rw [sm_flat]
          refine sm_congr fun e _ => ?_
          rw [sm_map]
          refine sm_congr fun b _ => ?_
          congr 1
          omega
        rw [hw]; omega
end Go.Proofs
