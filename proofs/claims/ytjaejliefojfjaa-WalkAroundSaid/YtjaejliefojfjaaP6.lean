/- A part of the proof: lemmas alone, no statement. -/
import Derived.Test.YtjaejliefojfjaaP5
import Derived.Test.YtjaejliefojfjaaRows
import Derived.Test.YtjaejliefojfjaaP2
import Derived.ProofKit
import Derived.OpenShut
set_option linter.unusedVariables false
set_option linter.unusedSimpArgs false
set_option linter.unnecessarySimpa false
set_option linter.unusedSectionVars false
set_option linter.unusedSimpArgs false
set_option linter.unusedVariables false
namespace Go.Proofs
open Go.Ab

theorem loop_weak {P : Program} {b : ACode} {K : AExit → Fr → Store → Prop} {fr fr0 : Fr} {σ σ0 : Store} (I : Nat → Fr → Store → Prop) (m : Nat) (hw : Weak fr σ fr0 σ0) (h0 : I m fr0 σ0) (hr : ∀ m fr σ, I m fr σ → Ab.wp P b (Kloop I m K) fr σ) : Ab.wp P (.loop b) K fr σ := ⟨I, ⟨m, fr0, σ0, hw, h0⟩, hr⟩
theorem Two.keep2 {σ σ' : Store} {s1 s2 : Nat} {v1 v2 : AVal} {r1 r2 : List (List AVal)} {others : List Nat} (h : Two σ s1 v1 r1 s2 v2 r2 others) (hk : ∀ j ∈ objs v1 ++ objs v2, σ'.get j = σ.get j) (ha : Alive σ' others) : Two σ' s1 v1 r1 s2 v2 r2 others := by
  have al : ∀ {l : List Nat}, (∀ j ∈ l, σ'.get j = σ.get j) → Alive σ l → Alive σ' l := fun hl hs j hj => by rw [hl j hj]; exact hs j hj
  refine ⟨h.1.keep (fun j hj => hk j (by simp [hj])) ?_ ?_, h.2.keep (fun j hj => hk j (by simp [hj])) ?_ ?_⟩
  · exact (al (fun j hj => hk j (by simp [hj])) h.2.objs_alive).app ha
  · exact h.1.objs_not
  · exact (al (fun j hj => hk j (by simp [hj])) h.1.objs_alive).app ha
  · exact h.2.objs_not

theorem thaw_tup {m : Nat} {τ : Store} {v v' : AVal} {b : Value} (h : Thaw m τ v v') : Thaw (m + 1) τ (.tup [v, .sc b]) (.tup [v', .sc b]) := by
  cases m with
  | zero => obtain ⟨⟨y, hy, _⟩, _⟩ := h; cases hy
  | succ m =>
    refine ⟨out_tup2 h.1 out_sc, fun id hid => ?_⟩
    unfold reach at hid
    simp only [List.flatMap_cons, List.flatMap_nil, List.append_nil, List.mem_append] at hid
    rcases hid with hid | hid
    · exact h.2 id hid
    · unfold reach at hid; cases hid
structure RAt (σ σ0 : Store) (x : Cx) (xid mid sm : Nat) (others : List Nat) (vo : AVal) (R : List (List St)) (vn : AVal) (next seen : List St) : Prop where
  S : SearchAt σ x xid mid
  M : SetAt σ sm seen
  two : Two σ 1 vo (rRows R) 2 vn (stR next) (sm :: xid :: mid :: others)
  same : ∀ j ∈ others, σ.get j = σ0.get j

section
variable (x : Cx) (hx : x.Ok) {σ0 : Store} {xid mid sm : Nat} {others : List Nat}
def ORnd (x : Cx) (σ0 : Store) (xid mid sm : Nat) (others : List Nat) (depth : Nat) (Res : Option (List (List St))) (m : Nat) (fr : Fr) (σ : Store) : Prop :=
  ∃ (n : Nat) (R : List (List St)) (seen cur : List St) (vo : AVal), n ≤ depth ∧ m = depth - n ∧ fr = [(0, .ptr xid 0 0 0), (2, .i depth), (8, .map sm), (9, vo), (10, .i n)] ∧ R.length = n + 1 ∧ R[n]? = some cur ∧
    (∃ seen0, SInv x seen0 (seen, cur)) ∧ RAt σ σ0 x xid mid sm others vo R .nils [] seen ∧ x.roundsF (depth - n) seen R cur = Res
def MRnd (x : Cx) (σ0 : Store) (xid mid sm : Nat) (others : List Nat) (depth n : Nat) (R : List (List St)) (seen cur : List St) (vo : AVal) (m : Nat) (fr : Fr) (σ : Store) : Prop :=
  ∃ (i : Nat) (a : List St × List St) (vn : AVal), i ≤ cur.length ∧ m = cur.length - i ∧ fr = [(0, .ptr xid 0 0 0), (2, .i depth), (8, .map sm), (9, vo), (10, .i n), (11, vn), (37, .lst (stR cur)), (38, .i cur.length), (39, .i i)] ∧
    SInv x seen a ∧ RAt σ σ0 x xid mid sm others vo R vn a.2 a.1 ∧ (cur.drop i).foldl x.roundIn a = x.round seen cur
def IRnd (x : Cx) (σ0 : Store) (xid mid sm : Nat) (others : List Nat) (depth n : Nat) (R : List (List St)) (seen cur : List St) (vo : AVal) (i : Nat) (ld : List Ld) (A : List St × List St) (m : Nat) (fr : Fr) (σ : Store) : Prop :=
  ∃ (k : Nat) (a : List St × List St) (vn : AVal), k ≤ ld.length ∧ m = ld.length - k ∧ fr = [(0, .ptr xid 0 0 0), (2, .i depth), (8, .map sm), (9, vo), (10, .i n), (11, vn), (37, .lst (stR cur)), (38, .i cur.length), (39, .i i), (45, .lst (ldRows ld)), (46, .i ld.length), (47, .i k)] ∧
    SInv x seen a ∧ RAt σ σ0 x xid mid sm others vo R vn a.2 a.1 ∧ (ld.drop k).foldl (fun a l => seenStep a l.to) a = A
def roundsV (o : Option (List (List St))) : AVal := match o with
  | some R => .tup [.lst (rRows R), .b true]
  | none => .tup [.nils, .b false]

theorem rounds_ok (x : Cx) (hx : x.Ok) (start : St) (hst : VSt x.g start) (depth : Nat) (hd : depth ≤ 100) {σ0 : Store} {xid mid : Nat} {others : List Nat} (h0 : SearchAt σ0 x xid mid) (hal : Alive σ0 others) (hno : mid ∉ others) :
    Ab.Good Try.prog 24 [.ptr xid 0 0 0, start.val, .i depth] σ0 (fun v σ' => v = roundsV (x.roundsF depth [start] [[start]] [start]) ∧ SearchAt σ' x xid mid ∧ ∀ j ∈ others, σ'.get j = σ0.get j) := by
  refine Ab.Good.weak ?_
  refine good_of_wp isF24 (Nat.le_refl _) ?_
  unfold ac24
  have ks : known start.val = some start.row := rfl
  have ls : start.row.length = 2 := rfl
  have ts : List.take 2 start.row = start.row := rfl
  have kk : ∀ s : St, AVal.agg s.row = s.val := fun _ => rfl
  have ax : (σ0.get xid).isSome = true := by rw [h0.obj]; rfl
  have am : (σ0.get mid).isSome = true := by obtain ⟨es, f, k1, _⟩ := h0.mp; rw [k1]; rfl
  have hne := h0.ne
  simp only [go_sem, simprocAttr, ks, ls]
  intro sb hsb
  simp only [go_sem, simprocAttr]
  intro sm hsm
  have g1 : ∀ j o, (σ0.get j).isSome = true → (σ0.set sb o).get j = σ0.get j := fun j o hj => get_fresh hsb hj
  have nsm : ∀ j, (σ0.get j).isSome = true → j ≠ sm := fun j hj e => by rw [← e, g1 j _ hj] at hsm; rw [hsm] at hj; cases hj
  have hsmm : mid ≠ sm := nsm mid am
  have hsmo : sm ∉ others := fun q => nsm sm (hal sm q) rfl
  have nbm : sb ≠ sm := fun e => by rw [← e] at hsm; simp at hsm
  have rb := fun o => (rowAt_fresh (o := o) hsm (j := sb) (ver := 0) (by rw [rowAt_self]; rfl)).trans (rowAt_self (σ := σ0) (id := sb) (v := 0) (fz := false) (sz := 2) (xs := [start.row]))
  have M0 : SetAt ((σ0.set sb (.row 0 false 2 [start.row])).set sm (.mp [])) sm [] := setAt_nil (Store.get_set_self _ _ _)
  obtain ⟨o1, u1, M1⟩ := M0.upd start
  simp only [go_sem, simprocAttr, rb, ls, ts, kk, u1]
  have rb1 : Ab.rowAt (((σ0.set sb (.row 0 false 2 [start.row])).set sm (.mp [])).set sm o1) sb 0 = some (false, 2, [start.row]) := by rw [rowAt_ne nbm, rb]
  have g2 : ∀ j, (σ0.get j).isSome = true → (((σ0.set sb (.row 0 false 2 [start.row])).set sm (.mp [])).set sm o1).get j = σ0.get j := fun j hj => by rw [Store.get_set_ne _ _ (nsm j hj), Store.get_set_ne _ _ (nsm j hj), g1 j _ hj]
  have A2 : Alive (((σ0.set sb (.row 0 false 2 [start.row])).set sm (.mp [])).set sm o1) (sm :: xid :: mid :: others) := by
    refine alive_cons (Store.get_set_self _ _ _) ?_
    intro j hj
    have hj' : (σ0.get j).isSome = true := by
      rcases List.mem_cons.1 hj with rfl | hj
      · exact ax
      · rcases List.mem_cons.1 hj with rfl | hj
        · exact am
        · exact hal j hj
    rw [g2 j hj']; exact hj'
  simp only [Store.set_set] at *
  generalize hτ : ((σ0.set sb (.row 0 false 2 [start.row])).set sm o1) = τ at *
  simp only [go_sem, simprocAttr, rb1, ls, ts, kk, ks]
  intro i1 hi1
  simp only [go_sem, simprocAttr]
  intro i2 hi2
  simp only [go_sem, simprocAttr]
  have e1 : [start.row] = stR [start] := rfl
  rw [e1]
  -- the first round
  have a1 : Acc (τ.set i1 (.row 0 false 2 (stR [start]))) 2 (.sl i1 0 0 1 2) (stR [start]) (sm :: xid :: mid :: others) := acc_new (rows := stR [start]) A2 hi1
  have n12 : i1 ≠ i2 := fun e => by rw [← e] at hi2; simp at hi2
  have a1' : Acc ((τ.set i1 (.row 0 false 2 (stR [start]))).set i2 (.row 0 false 1 [[.sl i1 0 0 1 2]])) 2 (.sl i1 0 0 1 2) (stR [start]) (i2 :: sm :: xid :: mid :: others) := a1.fresh hi2 _
  have a2 : Acc ((τ.set i1 (.row 0 false 2 (stR [start]))).set i2 (.row 0 false 1 [[.sl i1 0 0 1 2]])) 1 (.sl i2 0 0 1 1) ([] ++ [[.sl i1 0 0 1 2]]) (objs (.sl i1 0 0 1 2) ++ (sm :: xid :: mid :: others)) := by
    refine acc_new (rows := [[.sl i1 0 0 1 2]]) ?_ hi2
    exact (alive_cons (o := .row 0 false 2 (stR [start])) (Store.get_set_self _ _ _) (A2.set _ _))
  obtain ⟨τ0, hw, a3, k3⟩ := weak_put (m := 0) (fr := [(0, .ptr xid 0 0 0), (2, .i depth), (8, .map sm), (9, .sl i2 0 0 1 1), (10, .i 0)]) a1' a2 (stR_imm _ 0)
  have k4 : ∀ j, (τ.get j).isSome = true → τ0.get j = τ.get j := fun j hj => by
    have h1 : j ≠ i1 := fun e => by rw [e, hi1] at hj; cases hj
    have h2 : j ≠ i2 := fun e => by rw [← e, Store.get_set_ne _ _ h1] at hi2; rw [hi2] at hj; cases hj
    rw [k3 j (by simpa [objs] using h1) (by simpa [objs] using h2), Store.get_set_ne _ _ h2, Store.get_set_ne _ _ h1]
  have k5 : ∀ j, (σ0.get j).isSome = true → τ0.get j = σ0.get j := fun j hj => by rw [k4 j (by rw [g2 j hj]; exact hj), g2 j hj]
  have A4 : Alive τ0 (sm :: xid :: mid :: others) := fun j hj => by rw [k4 j (A2 j hj)]; exact A2 j hj
  refine loop_weak (ORnd x σ0 xid mid sm others depth (x.roundsF depth [start] [[start]] [start])) depth hw ⟨0, [[start]], [start], [start], _, by omega, rfl, rfl, rfl, rfl, ⟨[], ⟨rfl, by simp, by simpa using hst⟩⟩, ⟨h0.keep (k5 xid ax) (k5 mid am), ?_, ⟨?_, acc_nils ?_⟩, fun j hj => k5 j (hal j hj)⟩, rfl⟩ ?_
  · exact M1.keep (k4 sm (by have := A2 sm (by simp); exact this))
  · exact a3.less (by intro q hq; simp only [objs, List.nil_append] at hq; exact List.mem_append_right _ hq)
  · exact (a3.objs_alive).app A4
  clear hw a1 a1' a2 a3 k3 k4 k5 A4 hi1 hi2 n12 A2 g2 rb1 M1 M0 rb
  generalize x.roundsF depth [start] [[start]] [start] = Res at *
  rintro m fr σ ⟨n, R, seen, cur, vo, h1, rfl, rfl, h2, h3, ⟨seen0, h4⟩, h5, h6⟩
  have hwn : IntKind.i64.wrap ((n : Int) + 1) = ((n + 1 : Nat) : Int) := by rw [wrap_id (by omega) (by omega)]; rfl
  have rx := rowAt_get h5.S.obj
  have egoal : List.take 2 (List.drop 1 [x.map, AVal.sc (.int .i64 x.goal.at_), .sc (.int .i64 x.goal.n), .map mid]) = x.goal.row := rfl
  have hlook := h5.M.look x.goal
  have e6 : x.roundsF (depth - n) seen R cur = if x.goal ∈ seen then some R else match depth - n with
    | 0 => none
    | k + 1 => x.roundsF k (x.round seen cur).1 (R ++ [(x.round seen cur).2]) (x.round seen cur).2 := by
    cases depth - n <;> rfl
  rw [e6] at h6
  have egr : AVal.agg [AVal.sc (.int .i64 x.goal.at_), .sc (.int .i64 x.goal.n)] = x.goal.val := rfl
  simp only [go_sem, simprocAttr, rx, egr, hlook]
  refine .intro (fun hg => ?_) (fun hg => ?_)
  · -- the goal was come to
    rw [if_pos hg] at h6
    subst h6
    simp only [go_sem, simprocAttr]
    let P : Nat → Bool := fun j => (objs vo).contains j
    have hthaw : Thaw 3 (σ.freeze P) vo (.lst (rRows R)) := acc_thaw (m := 1) h5.two.1 (rRows_imm R 1) (fun id ver off len sz e => by subst e; simp [P, objs])
    have hnot : ∀ j ∈ sm :: xid :: mid :: others, P j = false := fun j hj => by
      cases hp : P j with
      | false => rfl
      | true =>
        have hp' : j ∈ objs vo := by simpa [P] using hp
        exact absurd (List.mem_append_right _ hj) (h5.two.1.objs_not j hp')
    refine ⟨roundsV (some R), σ.freeze P, (weak_freeze P).trans (weak_slots (n := 4) (fun q hq => ?_)), rfl, h5.S.keep (get_frz (hnot xid (by simp))) (get_frz (hnot mid (by simp))), fun j hj => ?_⟩
    · simp only [List.mem_singleton] at hq
      subst hq
      exact .inr (thaw_tup hthaw)
    · rw [get_frz (hnot j (by simp [hj]))]; exact h5.same j hj
  rw [if_neg hg] at h6
  simp only [go_sem, simprocAttr]
  by_cases hnd : (n : Int) = (depth : Int)
  · have e0 : depth - n = 0 := by omega
    rw [e0] at h6
    simp only at h6
    subst h6
    simp only [go_sem, simprocAttr, hnd]
    exact ⟨_, σ, Weak.of_le (Fr.le_refl _), rfl, h5.S, h5.same⟩
  have e0 : depth - n = (depth - (n + 1)) + 1 := by omega
  rw [e0] at h6
  simp only at h6
  obtain ⟨vid, ver, off, xs, rfl, hat⟩ := h5.two.1.at (by rw [rRows_len]; omega)
  have hrn : (rRows R)[n]? = some [.lst (stR cur)] := by unfold rRows; rw [List.getElem?_map, h3]; rfl
  have rvo := hat.row
  have rvn := hat.get hrn
  have qn : (0 : Int) ≤ (n : Int) := by omega
  have hnR : (n : Int) < ((rRows R).length : Int) := by rw [rRows_len]; omega
  have hcl : cur.length ≤ 280 := (h4.len hx).2
  have hcv : ∀ s ∈ cur, VSt x.g s := fun s hs => h4.val s (by rw [h4.eq]; exact List.mem_append_right _ hs)
  simp only [go_sem, simprocAttr, hnd, rvo, rvn, qn, hnR, stR_len]
  have a0 : SInv x seen (seen, []) := ⟨by simp, h4.nd, h4.val⟩
  refine loop_rule (MRnd x σ0 xid mid sm others depth n R seen cur (.sl vid ver off (rRows R).length 1)) cur.length ⟨0, (seen, []), .nils, by omega, rfl, rfl, a0, h5, rfl⟩ ?_
  clear hat rvo rvn a0 rx hlook hrn
  rintro m fr σ ⟨i, a, vn, k1, rfl, rfl, k2, k3, k4⟩
  have hwi : IntKind.i64.wrap ((i : Int) + 1) = ((i + 1 : Nat) : Int) := by rw [wrap_id (by omega) (by omega)]; rfl
  have qi : (0 : Int) ≤ (i : Int) := by omega
  simp only [go_sem, simprocAttr]
  refine .intro (fun hi => ?_) (fun hi => ?_)
  · have hs : cur[i]? = some cur[i] := List.getElem?_eq_getElem (by omega)
    have hd := drop_of_get hs
    generalize cur[i]'(by omega) = s at *
    have hsr : (stR cur)[i]? = some s.row := by unfold stR; rw [List.getElem?_map, hs]; rfl
    have hsv := hcv s (List.mem_of_getElem? hs)
    have lsr : s.row.length = 2 := rfl
    have tsr : List.take 2 s.row = s.row := rfl
    have ksr : known (.agg s.row) = some s.row := rfl
    have ksv : known s.val = some s.row := rfl
    rw [hd, List.foldl_cons] at k4
    simp only [go_sem, simprocAttr, hsr, qi, lsr, tsr]
    intro tb htb
    simp only [go_sem, simprocAttr, ksr, ksv, lsr, tsr, kk]
    have ax' : (σ.get xid).isSome = true := by rw [k3.S.obj]; rfl
    have am' : (σ.get mid).isSome = true := by obtain ⟨es, f, q1, _⟩ := k3.S.mp; rw [q1]; rfl
    have as' : (σ.get sm).isSome = true := by obtain ⟨es, q1, _⟩ := k3.M; rw [q1]; rfl
    have k3f : RAt (σ.set tb (.row 0 false 2 [s.row])) σ0 x xid mid sm others (.sl vid ver off (rRows R).length 1) R vn a.2 a.1 := by
      refine ⟨k3.S.keep (get_fresh htb ax') (get_fresh htb am'), k3.M.keep (get_fresh htb as'), (k3.two.fresh htb _).less (by intro q hq; simp [hq]), fun j hj => ?_⟩
      rw [get_fresh htb (by rw [k3.same j hj]; exact hal j hj)]; exact k3.same j hj
    clear k3 ax' am' as'
    generalize σ.set tb (.row 0 false 2 [s.row]) = τ at *
    have hmo : mid ∉ objs (.sl vid ver off (rRows R).length 1) ++ (objs vn ++ (sm :: others)) := by
      intro hq
      rcases List.mem_append.1 hq with hq | hq
      · exact k3f.two.1.objs_not mid hq (by simp)
      · rcases List.mem_append.1 hq with hq | hq
        · exact k3f.two.2.objs_not mid hq (by simp)
        · rcases List.mem_cons.1 hq with hq | hq
          · obtain ⟨es, q1, _⟩ := k3f.M
            exact hsmm hq
          · exact hno hq
    have hall : Alive τ (objs (.sl vid ver off (rRows R).length 1) ++ (objs vn ++ (sm :: others))) := by
      have b1 := k3f.two.1.objs_alive
      have b2 := k3f.two.2.objs_alive
      have b3 : Alive τ (sm :: xid :: mid :: others) := k3f.two.1.1.right
      exact b1.app (b2.app fun j hj => b3 j (by rcases List.mem_cons.1 hj with rfl | hj; simp; simp [hj]))
    refine (from_search_ok x hx s (by have := hsv.2; omega) k3f.S hall hmo).mono fun rv σ2 hv => ?_
    obtain ⟨rfl, c1, c2⟩ := hv
    have hll : (x.leads s).length ≤ 10000 := by
      unfold Cx.leads
      rw [List.length_append]
      have := x.leadsN_len s false x.g.n.toNat
      have := x.leadsN_len s true (2 * x.g.ls.length)
      have := hx.pts.ok.1
      have := hx.pts.ok.2.2.1
      omega
    have hlv : ∀ q ∈ x.leads s, VSt x.g q.to := fun q hq => (lead_valid hx hq).1
    have al2 : Alive σ2 (sm :: xid :: mid :: others) := by
      intro j hj
      rcases List.mem_cons.1 hj with rfl | hj
      · rw [c2 _ (by simp)]; exact k3f.two.1.1.right _ (by simp)
      · rcases List.mem_cons.1 hj with rfl | hj
        · rw [c1.obj]; rfl
        · rcases List.mem_cons.1 hj with rfl | hj
          · obtain ⟨es, f, q1, _⟩ := c1.mp; rw [q1]; rfl
          · rw [c2 _ (by simp [hj])]; exact k3f.two.1.1.right _ (by simp [hj])
    have k3g : RAt σ2 σ0 x xid mid sm others (.sl vid ver off (rRows R).length 1) R vn a.2 a.1 :=
      ⟨c1, k3f.M.keep (c2 sm (by simp)), Two.keep2 k3f.two (fun j hj => c2 j (by rcases List.mem_append.1 hj with hj | hj <;> simp [hj])) al2, fun j hj => (c2 j (by simp [hj])).trans (k3f.same j hj)⟩
    have hA : SInv x seen (x.roundIn a s) := k2.in_ hx s
    have eA : (x.leads s).foldl (fun a l => seenStep a l.to) a = x.roundIn a s := rfl
    generalize x.leads s = ld at *
    simp only [go_sem, simprocAttr, ldRows_len]
    refine loop_rule (IRnd x σ0 xid mid sm others depth n R seen cur (.sl vid ver off (rRows R).length 1) i ld (x.roundIn a s)) ld.length ⟨0, a, vn, by omega, rfl, rfl, k2, k3g, eA⟩ ?_
    clear k3f k3g c1 c2 al2 hall hmo eA k2
    rintro m fr σ3 ⟨k, b, vn2, j1, rfl, rfl, j2, j3, j4⟩
    have hwk : IntKind.i64.wrap ((k : Int) + 1) = ((k + 1 : Nat) : Int) := by rw [wrap_id (by omega) (by omega)]; rfl
    have qk : (0 : Int) ≤ (k : Int) := by omega
    simp only [go_sem, simprocAttr]
    refine .intro (fun hk => ?_) (fun hk => ?_)
    · have hq : ld[k]? = some ld[k] := List.getElem?_eq_getElem (by omega)
      have hdq := drop_of_get hq
      generalize ld[k]'(by omega) = q at *
      have hqr : (ldRows ld)[k]? = some q.row := by unfold ldRows; rw [List.getElem?_map, hq]; rfl
      have hqv := hlv q (List.mem_of_getElem? hq)
      have lq : q.row.length = 4 := rfl
      have tq : List.take 4 q.row = q.row := rfl
      have kq : known (.agg q.row) = some q.row := rfl
      have dq : List.take 2 (List.drop 2 q.row) = q.to.row := rfl
      rw [hdq, List.foldl_cons] at j4
      simp only [go_sem, simprocAttr, hqr, qk, lq, tq]
      intro qb hqb
      simp only [go_sem, simprocAttr, kq, lq, tq]
      have ax' : (σ3.get xid).isSome = true := by rw [j3.S.obj]; rfl
      have am' : (σ3.get mid).isSome = true := by obtain ⟨es, f, q1, _⟩ := j3.S.mp; rw [q1]; rfl
      have as' : (σ3.get sm).isSome = true := by obtain ⟨es, q1, _⟩ := j3.M; rw [q1]; rfl
      have nsq : sm ≠ qb := fun e => by rw [e, hqb] at as'; cases as'
      have T1 : Two (σ3.set qb (.row 0 false 4 [q.row])) 1 (.sl vid ver off (rRows R).length 1) (rRows R) 2 vn2 (stR b.2) (qb :: sm :: xid :: mid :: others) := j3.two.fresh hqb _
      have M1 : SetAt (σ3.set qb (.row 0 false 4 [q.row])) sm b.1 := j3.M.keep (get_fresh hqb as')
      have S1 : SearchAt (σ3.set qb (.row 0 false 4 [q.row])) x xid mid := j3.S.keep (get_fresh hqb ax') (get_fresh hqb am')
      have E1 : ∀ j ∈ others, (σ3.set qb (.row 0 false 4 [q.row])).get j = σ0.get j := fun j hj => by
        rw [get_fresh hqb (by rw [j3.same j hj]; exact hal j hj)]; exact j3.same j hj
      have rq : Ab.rowAt (σ3.set qb (.row 0 false 4 [q.row])) qb 0 = some (false, 4, [q.row]) := rowAt_self
      have hlk := M1.look q.to
      clear j3 ax' am' as' hqb
      generalize σ3.set qb (.row 0 false 4 [q.row]) = τ3 at *
      have lq2 : (2 : Nat) + 2 ≤ 4 := by omega
      simp only [go_sem, simprocAttr, rq, lq, dq, kk, hlk]
      by_cases hin : q.to ∈ b.1
      · have es : seenStep b q.to = b := if_pos hin
        rw [es] at j4
        simp only [go_sem, simprocAttr, hin, hwk]
        exact back_of _ (by omega) ⟨k + 1, b, vn2, by omega, rfl, rfl, j2, ⟨S1, M1, T1.less (by intro z hz; simp [hz]), E1⟩, j4⟩
      · have es : seenStep b q.to = (b.1 ++ [q.to], b.2 ++ [q.to]) := if_neg hin
        rw [es] at j4
        have j2' := j2.step hqv
        rw [es] at j2'
        have hlen := (j2'.len hx).2
        simp only [List.length_append, List.length_cons, List.length_nil] at hlen
        obtain ⟨o2, u2, M2⟩ := M1.upd q.to
        have rq2 : Ab.rowAt (τ3.set sm o2) qb 0 = some (false, 4, [q.row]) := by rw [rowAt_ne (fun e => nsq e.symm)]; exact rq
        have T2 : Two (τ3.set sm o2) 1 (.sl vid ver off (rRows R).length 1) (rRows R) 2 vn2 (stR b.2) (qb :: sm :: xid :: mid :: others) := T1.other (by simp) _
        have nsx : xid ≠ sm := fun e => by
          obtain ⟨es', q1, _⟩ := M1
          have := S1.obj
          rw [e, q1] at this
          cases this
        have S2 : SearchAt (τ3.set sm o2) x xid mid := S1.keep (Store.get_set_ne _ _ nsx) (Store.get_set_ne _ _ (fun e => hsmm e))
        have E2 : ∀ j ∈ others, (τ3.set sm o2).get j = σ0.get j := fun j hj => by rw [Store.get_set_ne _ _ (fun e : j = sm => hsmo (by rw [← e]; exact hj))]; exact E1 j hj
        have kto : known (.agg q.to.row) = some q.to.row := rfl
        have lto : q.to.row.length = 2 := rfl
        simp only [go_sem, simprocAttr, hin, rq, lq, dq, kk, u2, rq2]
        have kval : known q.to.val = some q.to.row := rfl
        simp only [go_sem, simprocAttr, kval, lto]
        intro nb hnb
        have T3 := T2.fresh hnb (.row 0 false 2 [q.to.row])
        have as2 : ((τ3.set sm o2).get sm).isSome = true := by simp
        have ax2 : ((τ3.set sm o2).get xid).isSome = true := by rw [S2.obj]; rfl
        have am2 : ((τ3.set sm o2).get mid).isSome = true := by obtain ⟨es', f, q1, _⟩ := S2.mp; rw [q1]; rfl
        simp only [go_sem, simprocAttr]
        refine acc_append T3.swap.1 (by simp only [stR_len, List.length_cons, List.length_nil]; omega) (by simp only [stR_len, List.length_cons, List.length_nil]; omega) fun v' σ4 p1 p2 => ?_
        have T4 : Two σ4 1 (.sl vid ver off (rRows R).length 1) (rRows R) 2 v' (stR b.2 ++ [q.to.row]) (nb :: qb :: sm :: xid :: mid :: others) := (T3.swap.first p1 p2).swap
        have e4 : stR b.2 ++ [q.to.row] = stR (b.2 ++ [q.to]) := by simp [stR]
        rw [e4] at T4
        have same4 : ∀ j, j ∈ sm :: xid :: mid :: others → ((τ3.set sm o2).get j).isSome = true → σ4.get j = (τ3.set sm o2).get j := fun j hj hs => by
          rw [p2 j (by simp only [List.mem_append, List.mem_cons] at hj ⊢; exact .inr (.inr (.inr hj))), get_fresh hnb hs]
        simp only [go_sem, simprocAttr, hwk]
        refine back_of _ (by omega) ⟨k + 1, _, v', by omega, rfl, rfl, j2', ⟨S2.keep (same4 _ (by simp) ax2) (same4 _ (by simp) am2), M2.keep (same4 _ (by simp) as2), T4.less (by intro z hz; simp only [List.mem_cons] at hz ⊢; exact .inr (.inr hz)), fun j hj => ?_⟩, j4⟩
        rw [same4 j (by simp [hj]) (by rw [E2 j hj]; exact hal j hj)]; exact E2 j hj
    · have ek : ld.drop k = [] := List.drop_eq_nil_of_le (by omega)
      rw [ek] at j4
      have j4' : b = x.roundIn a s := j4
      simp only [go_sem, simprocAttr, hwi]
      exact back_of _ (by omega) ⟨i + 1, b, vn2, by omega, rfl, rfl, j2, j3, by rw [j4']; exact k4⟩
  · have ei : cur.drop i = [] := List.drop_eq_nil_of_le (by omega)
    rw [ei] at k4
    have k4' : a = x.round seen cur := k4
    rw [← k4'] at h6
    have kn := k3.two.2.known
    have hl2 := (k2.len hx).2
    simp only [go_sem, simprocAttr, kn]
    intro nb hnb
    have T1 := k3.two.fresh hnb (.row 0 false 1 [[vn]])
    have ax' : (σ.get xid).isSome = true := by rw [k3.S.obj]; rfl
    have am' : (σ.get mid).isSome = true := by obtain ⟨es, f, q1, _⟩ := k3.S.mp; rw [q1]; rfl
    have as' : (σ.get sm).isSome = true := by obtain ⟨es, q1, _⟩ := k3.M; rw [q1]; rfl
    simp only [go_sem, simprocAttr]
    refine acc_append T1.1 (by simp only [rRows_len, List.length_cons, List.length_nil]; omega) (by simp only [rRows_len, List.length_cons, List.length_nil]; omega) fun v' σ4 p1 p2 => ?_
    have T4 := T1.first p1 p2
    have same4 : ∀ j, j ∈ sm :: xid :: mid :: others → (σ.get j).isSome = true → σ4.get j = σ.get j := fun j hj hs => by
      rw [p2 j (by simp only [List.mem_append, List.mem_cons] at hj ⊢; exact .inr (.inr hj)), get_fresh hnb hs]
    simp only [go_sem, simprocAttr, hwn]
    obtain ⟨τ0, hw, a3, w3⟩ := weak_put (m := 0) (fr := [(0, .ptr xid 0 0 0), (2, .i depth), (8, .map sm), (9, v'), (10, .i ((n + 1 : Nat) : Int))]) T4.2 T4.1 (stR_imm _ 0)
    have n1 : ∀ j, j ∈ sm :: xid :: mid :: others → τ0.get j = σ4.get j := fun j hj => w3 j (fun q => T4.2.objs_not j q (by simp only [List.mem_append, List.mem_cons] at hj ⊢; exact .inr (.inr hj))) (fun q => T4.1.objs_not j q (by simp only [List.mem_append, List.mem_cons] at hj ⊢; exact .inr (.inr hj)))
    have n2 : ∀ j, j ∈ sm :: xid :: mid :: others → (σ.get j).isSome = true → τ0.get j = σ.get j := fun j hj hs => by rw [n1 j hj, same4 j hj hs]
    have A0 : Alive σ (sm :: xid :: mid :: others) := k3.two.1.1.right
    have A4 : Alive τ0 (sm :: xid :: mid :: others) := fun j hj => by rw [n2 j hj (A0 j hj)]; exact A0 j hj
    have eR : rRows R ++ [[.lst (stR a.2)]] = rRows (R ++ [a.2]) := by simp [rRows]
    rw [eR] at a3
    refine back_weak (depth - (n + 1)) (by omega) _ τ0 hw ⟨n + 1, R ++ [a.2], a.1, a.2, v', by omega, rfl, rfl, by simp [h2], ?_, ⟨seen, k2⟩, ⟨k3.S.keep (n2 _ (by simp) ax') (n2 _ (by simp) am'), k3.M.keep (n2 _ (by simp) as'), ⟨a3.less (by intro z hz; simp only [objs, List.nil_append] at hz; simp only [List.mem_append, List.mem_cons] at hz ⊢; exact .inr (.inr hz)), acc_nils ?_⟩, fun j hj => ?_⟩, h6⟩
    · rw [List.getElem?_append_right (by omega), h2]; simp
    · exact a3.objs_alive.app A4
    · rw [n2 j (by simp [hj]) (by rw [k3.same j hj]; exact hal j hj)]; exact k3.same j hj
end
end Go.Proofs

set_option linter.unusedSimpArgs false
set_option linter.unusedVariables false
namespace Go.Proofs
open Go.Ab

/-! ### compile.left -/
def Cx.hit (x : Cx) (L : List St) (s : St) : Bool := (x.leads s).any fun l => decide (l.to ∈ L)
def Cx.leftL (x : Cx) : List (List St) → List (List St)
  | [] => []
  | [_] => [[x.goal]]
  | r :: q :: R => (r.filter (x.hit ((x.leftL (q :: R)).headD []))) :: x.leftL (q :: R)
theorem Cx.leftL_len (x : Cx) : ∀ R : List (List St), (x.leftL R).length = R.length
  | [] => rfl
  | [_] => rfl
  | r :: q :: R => by simp only [Cx.leftL, List.length_cons]; rw [x.leftL_len (q :: R)]; rfl
theorem SetAt.congr {σ : Store} {sm : Nat} {A B : List St} (h : SetAt σ sm A) (hab : ∀ s, s ∈ A ↔ s ∈ B) : SetAt σ sm B := by
  obtain ⟨es, k1, k2⟩ := h
  refine ⟨es, k1, ?_⟩
  have e : (fun s => if s ∈ A then some (AVal.sc (.bool true)) else none) = fun s => if s ∈ B then some (AVal.sc (.bool true)) else none := by
    funext s
    by_cases h : s ∈ B
    · rw [if_pos ((hab s).2 h), if_pos h]
    · rw [if_neg (fun q => h ((hab s).1 q)), if_neg h]
  rw [e] at k2
  exact k2
theorem any_take' {α : Type} (q : α → Bool) (l : List α) (i : Nat) (x : α) (h : l[i]? = some x) : (l.take (i + 1)).any q = ((l.take i).any q || q x) := by
  rw [List.take_add_one, h]
  simp [List.any_append]
theorem filter_take {α : Type} (q : α → Bool) (l : List α) (i : Nat) (x : α) (h : l[i]? = some x) : (l.take (i + 1)).filter q = (l.take i).filter q ++ (if q x = true then [x] else []) := by
  rw [List.take_add_one, h, List.filter_append]
  congr 1
  cases hq : q x <;> simp [hq]

def mRow (ids : List Nat) : List (List AVal) := ids.map fun i => [.map i]
def lCells (k : Nat) (ids : List Nat) : List (List AVal) := List.replicate k [.nilm] ++ mRow ids
/-- The rounds from the goal back, in memory: the last ones. -/
structure LAt (σ σ0 : Store) (x : Cx) (xid mid oid : Nat) (others : List Nat) (k : Nat) (ids : List Nat) (LS : List (List St)) : Prop where
  S : SearchAt σ x xid mid
  obj : σ.get oid = some (.row 0 false 1 (lCells k ids))
  sets : ∀ (i id : Nat) (L : List St), ids[i]? = some id → LS[i]? = some L → SetAt σ id L
  len : ids.length = LS.length
  nd : ids.Nodup
  nt : ∀ id ∈ ids, id ∉ others ∧ id ≠ mid
  ot : oid ∉ others
  same : ∀ j ∈ others, σ.get j = σ0.get j
theorem LAt.isMap {σ σ0 : Store} {x : Cx} {xid mid oid : Nat} {others : List Nat} {k : Nat} {ids : List Nat} {LS : List (List St)} (h : LAt σ σ0 x xid mid oid others k ids LS) {id : Nat} (hid : id ∈ ids) : ∃ es, σ.get id = some (.mp es) := by
  obtain ⟨i, hi⟩ := List.getElem?_of_mem hid
  have hl : i < LS.length := by rw [← h.len]; exact (List.getElem?_eq_some_iff.1 hi).1
  obtain ⟨es, k1, _⟩ := h.sets i id _ hi (List.getElem?_eq_getElem hl)
  exact ⟨es, k1⟩
theorem LAt.keep {σ σ' σ0 : Store} {x : Cx} {xid mid oid : Nat} {others : List Nat} {k : Nat} {ids : List Nat} {LS : List (List St)} (h : LAt σ σ0 x xid mid oid others k ids LS) (hS : SearchAt σ' x xid mid) (hk : ∀ j, j = oid ∨ j ∈ ids ∨ j ∈ others → σ'.get j = σ.get j) : LAt σ' σ0 x xid mid oid others k ids LS :=
  ⟨hS, (hk oid (.inl rfl)).trans h.obj, fun i id L h1 h2 => (h.sets i id L h1 h2).keep (hk id (.inr (.inl (List.mem_of_getElem? h1)))), h.len, h.nd, h.nt, h.ot, fun j hj => (hk j (.inr (.inr hj))).trans (h.same j hj)⟩

def OLeft (x : Cx) (σ0 : Store) (xid mid oid : Nat) (others : List Nat) (R : List (List St)) (m : Nat) (fr : Fr) (σ : Store) : Prop :=
  ∃ (k : Nat) (ids : List Nat), k + 1 ≤ R.length ∧ k = m ∧ fr = [(0, .ptr xid 0 0 0), (1, .lst (rRows R)), (5, .sl oid 0 0 R.length 1), (6, .i ((k : Int) - 1))] ∧ LAt σ σ0 x xid mid oid others k ids (x.leftL (R.drop k))
def MLeft (x : Cx) (σ0 : Store) (xid mid oid : Nat) (others : List Nat) (R : List (List St)) (k : Nat) (ids : List Nat) (nm : Nat) (cur LS1 : List St) (m : Nat) (fr : Fr) (σ : Store) : Prop :=
  ∃ i : Nat, i ≤ cur.length ∧ m = cur.length - i ∧ fr = [(0, .ptr xid 0 0 0), (1, .lst (rRows R)), (5, .sl oid 0 0 R.length 1), (6, .i k), (39, .lst (stR cur)), (40, .i cur.length), (41, .i i)] ∧
    LAt σ σ0 x xid mid oid others k (nm :: ids) ((cur.take i).filter (x.hit LS1) :: x.leftL (R.drop (k + 1)))
def ILeft (x : Cx) (σ0 : Store) (xid mid oid : Nat) (others : List Nat) (R : List (List St)) (k : Nat) (ids : List Nat) (nm : Nat) (cur LS1 : List St) (ab i : Nat) (s : St) (ld : List Ld) (m : Nat) (fr : Fr) (σ : Store) : Prop :=
  ∃ q : Nat, q ≤ ld.length ∧ m = ld.length - q ∧ fr = [(0, .ptr xid 0 0 0), (1, .lst (rRows R)), (5, .sl oid 0 0 R.length 1), (6, .i k), (8, .ptr ab 0 0 0), (39, .lst (stR cur)), (40, .i cur.length), (41, .i i), (47, .lst (ldRows ld)), (48, .i ld.length), (49, .i q)] ∧
    LAt σ σ0 x xid mid oid others k (nm :: ids) (((cur.take i).filter (x.hit LS1) ++ if ((ld.take q).any fun l => decide (l.to ∈ LS1)) = true then [s] else []) :: x.leftL (R.drop (k + 1))) ∧
    σ.get ab = some (.row 0 false 2 [s.row])

theorem left_ok (x : Cx) (hx : x.Ok) (R : List (List St)) (hR : 0 < R.length) (hR2 : R.length ≤ 1000) (hRv : ∀ r ∈ R, r.length ≤ 1000 ∧ ∀ s ∈ r, VSt x.g s) {σ0 : Store} {xid mid : Nat} {others : List Nat} (h0 : SearchAt σ0 x xid mid) (hal : Alive σ0 others) (hno : mid ∉ others) :
    Ab.Good Try.prog 25 [.ptr xid 0 0 0, .lst (rRows R)] σ0 (fun v σ' => ∃ oid ids, v = .sl oid 0 0 R.length 1 ∧ LAt σ' σ0 x xid mid oid others 0 ids (x.leftL R)) := by
  refine good_of_wp isF25 (Nat.le_refl _) ?_
  unfold ac25
  have ax : (σ0.get xid).isSome = true := by rw [h0.obj]; rfl
  have am : (σ0.get mid).isSome = true := by obtain ⟨es, f, k1, _⟩ := h0.mp; rw [k1]; rfl
  have q1 : (0 : Int) ≤ (R.length : Int) := by omega
  have q2 : (R.length : Int) ≤ 9223372036854775807 := by omega
  have q3 : R.length * 8 ≤ 281474976710656 := by omega
  have kk : ∀ s : St, AVal.agg s.row = s.val := fun _ => rfl
  simp only [go_sem, simprocAttr, rRows_len, q1, q2, q3]
  intro oid hoid
  have gx : ∀ o, (σ0.set oid o).get xid = σ0.get xid := fun o => get_fresh hoid ax
  have g1 : ∀ j o, (σ0.get j).isSome = true → (σ0.set oid o).get j = σ0.get j := fun j o hj => get_fresh hoid hj
  have noid : ∀ j, (σ0.get j).isSome = true → j ≠ oid := fun j hj e => by rw [e, hoid] at hj; cases hj
  have rx := fun o => rowAt_get ((gx o).trans h0.obj)
  have hwl : IntKind.i64.wrap ((R.length : Int) - 1) = ((R.length - 1 : Nat) : Int) := (wrap_id (by omega) (by omega)).trans (by omega)
  have hwl2 : IntKind.i64.wrap ((R.length : Int) - 2) = ((R.length - 1 : Nat) : Int) - 1 := (wrap_id (by omega) (by omega)).trans (by omega)
  simp only [go_sem, simprocAttr, hwl]
  intro gm hgm
  have ngo : oid ≠ gm := fun e => by rw [← e] at hgm; simp at hgm
  have ngm : ∀ j, (σ0.get j).isSome = true → j ≠ gm := fun j hj e => by rw [← e, g1 j _ hj] at hgm; rw [hgm] at hj; cases hj
  have egoal : AVal.agg [AVal.sc (.int .i64 x.goal.at_), .sc (.int .i64 x.goal.n)] = x.goal.val := rfl
  have M0 : SetAt ((σ0.set oid (.row 0 false 1 (List.replicate R.length [.nilm]))).set gm (.mp [])) gm [] := setAt_nil (Store.get_set_self _ _ _)
  obtain ⟨o1, u1, M1⟩ := M0.upd x.goal
  have rx2 : ∀ o, Ab.rowAt ((σ0.set oid (.row 0 false 1 (List.replicate R.length [.nilm]))).set gm o) xid 0 = _ := fun o => (rowAt_ne (ngm xid ax)).trans (rx _)
  have ro : ∀ o, Ab.rowAt ((σ0.set oid (.row 0 false 1 (List.replicate R.length [.nilm]))).set gm o) oid 0 = some (false, 1, List.replicate R.length [.nilm]) := fun o => by rw [rowAt_ne ngo]; exact rowAt_self
  have hl1 : ((R.length - 1 : Nat) : Int) < (R.length : Int) := by omega
  have hrep : (List.replicate R.length [AVal.nilm])[R.length - 1]? = some [.nilm] := by rw [List.getElem?_replicate, if_pos (by omega)]
  have q4 : (0 : Int) ≤ ((R.length - 1 : Nat) : Int) := by omega
  simp only [Store.set_set] at u1 M1
  simp only [go_sem, simprocAttr, rx2, rx, egoal, u1, ro, hwl, hl1, hrep, q4, hwl2]
  have gm1 : ∀ j, (σ0.get j).isSome = true → (((σ0.set oid (.row 0 false 1 (List.replicate R.length [.nilm]))).set gm o1).set oid (.row 0 false 1 ((List.replicate R.length [.nilm]).set (R.length - 1) [.map gm]))).get j = σ0.get j := fun j hj => by
    rw [Store.get_set_ne _ _ (noid j hj), Store.get_set_ne _ _ (ngm j hj), g1 j _ hj]
  have hcell : (List.replicate R.length [AVal.nilm]).set (R.length - 1) [.map gm] = lCells (R.length - 1) [gm] := by
    obtain ⟨n, hn⟩ : ∃ n, R.length = n + 1 := ⟨R.length - 1, by omega⟩
    rw [hn, Nat.add_sub_cancel, List.replicate_succ']
    unfold lCells mRow
    rw [List.set_append_right _ _ (by simp)]
    simp
  have hdrop : ∃ r, R.drop (R.length - 1) = [r] := by
    refine ⟨R[R.length - 1]'(by omega), ?_⟩
    rw [List.drop_eq_getElem_cons (by omega), List.drop_eq_nil_of_le (by omega)]
  obtain ⟨rl, hrl⟩ := hdrop
  refine loop_rule (OLeft x σ0 xid mid oid others R) (R.length - 1) ⟨R.length - 1, [gm], by omega, rfl, rfl, ?_⟩ ?_
  · rw [hrl]
    refine ⟨h0.keep (gm1 xid ax) (gm1 mid am), by rw [Store.get_set_self, hcell], fun i id L hi hL => ?_, rfl, by simp, fun id hid => ?_, fun q => noid oid (hal oid q) rfl, fun j hj => gm1 j (hal j hj)⟩
    · cases i with
      | zero =>
        simp only [List.getElem?_cons_zero, Option.some.injEq, Cx.leftL] at hi hL
        subst hi
        subst hL
        exact M1.keep (Store.get_set_ne _ _ (fun e => ngo e.symm))
      | succ i => simp at hi
    · simp only [List.mem_singleton] at hid
      subst hid
      exact ⟨fun q => ngm id (hal id q) rfl, fun e => ngm mid am e.symm⟩
  rintro m fr σ ⟨k, ids, k1, rfl, rfl, k2⟩
  simp only [go_sem, simprocAttr]
  cases k with
  | zero =>
    have qz : ¬ ((0 : Int) ≤ ((0 : Nat) : Int) - 1) := by omega
    simp only [go_sem, simprocAttr, qz]
    exact ⟨oid, ids, rfl, by simpa using k2⟩
  | succ k =>
    have ek : ((k + 1 : Nat) : Int) - 1 = (k : Int) := by omega
    have qk : (0 : Int) ≤ (k : Int) := by omega
    have hkR : (k : Int) < (R.length : Int) := by omega
    rw [ek]
    simp only [go_sem, simprocAttr, qk]
    intro nm hnm
    have ro1 := rowAt_get k2.obj
    have nno : oid ≠ nm := fun e => by rw [← e, k2.obj] at hnm; cases hnm
    have ro2 : Ab.rowAt (σ.set nm (.mp [])) oid 0 = some (false, 1, lCells (k + 1) ids) := by rw [rowAt_ne nno]; exact ro1
    have hcg : (lCells (k + 1) ids)[k]? = some [.nilm] := by unfold lCells; rw [List.getElem?_append_left (by simp), List.getElem?_replicate, if_pos (by omega)]
    have hcs : (lCells (k + 1) ids).set k [.map nm] = lCells k (nm :: ids) := by
      unfold lCells mRow
      rw [List.replicate_succ', List.append_assoc, List.set_append_right _ _ (by simp)]
      simp
    have hcur : R[k]? = some R[k] := List.getElem?_eq_getElem (by omega)
    have hdr := drop_of_get hcur
    have hcv := hRv _ (List.getElem_mem (by omega : k < R.length))
    generalize R[k]'(by omega) = cur at *
    have hcr : (rRows R)[k]? = some [.lst (stR cur)] := by unfold rRows; rw [List.getElem?_map, hcur]; rfl
    simp only [go_sem, simprocAttr, qk, hkR, ro2, hcg, hcs, hcr, stR_len]
    -- the sets so far
    have hne : R.drop (k + 1) ≠ [] := fun e => by have := congrArg List.length e; rw [List.length_drop, List.length_nil] at this; omega
    obtain ⟨LS1, LSr, hLS⟩ : ∃ a b, x.leftL (R.drop (k + 1)) = a :: b := by
      cases hq : x.leftL (R.drop (k + 1)) with
      | nil => have := x.leftL_len (R.drop (k + 1)); rw [hq] at this; exact absurd (List.eq_nil_of_length_eq_zero this.symm) hne
      | cons a b => exact ⟨a, b, rfl⟩
    have eleft : x.leftL (R.drop k) = cur.filter (x.hit LS1) :: x.leftL (R.drop (k + 1)) := by
      rw [hdr]
      cases hq : R.drop (k + 1) with
      | nil => exact absurd hq hne
      | cons a b => rw [hq] at hLS; simp only [Cx.leftL]; rw [hLS]; rfl
    have ax1 : (σ.get xid).isSome = true := by rw [k2.S.obj]; rfl
    have am1 : (σ.get mid).isSome = true := by obtain ⟨es, f, q1, _⟩ := k2.S.mp; rw [q1]; rfl
    have nxo : xid ≠ oid := noid xid ax
    have nmo : mid ≠ oid := noid mid am
    have nmf : ∀ j, (σ.get j).isSome = true → j ≠ nm := fun j hj e => by rw [e, hnm] at hj; cases hj
    have start : LAt ((σ.set nm (.mp [])).set oid (.row 0 false 1 (lCells k (nm :: ids)))) σ0 x xid mid oid others k (nm :: ids) ((cur.take 0).filter (x.hit LS1) :: x.leftL (R.drop (k + 1))) := by
      have idl : ∀ id ∈ ids, (σ.get id).isSome = true := fun id hid => by obtain ⟨es, q1⟩ := k2.isMap hid; rw [q1]; rfl
      have ido : ∀ id ∈ ids, id ≠ oid := fun id hid e => by obtain ⟨es, q1⟩ := k2.isMap hid; rw [e, k2.obj] at q1; cases q1
      refine ⟨k2.S.keep ?_ ?_, Store.get_set_self _ _ _, fun i id L hi hL => ?_, by simp [k2.len], ?_, fun id hid => ?_, k2.ot, fun j hj => ?_⟩
      · rw [Store.get_set_ne _ _ nxo, Store.get_set_ne _ _ (nmf xid ax1)]
      · rw [Store.get_set_ne _ _ nmo, Store.get_set_ne _ _ (nmf mid am1)]
      · cases i with
        | zero =>
          simp only [List.getElem?_cons_zero, Option.some.injEq, List.take_zero, List.filter_nil] at hi hL
          subst hi
          subst hL
          exact setAt_nil (by rw [Store.get_set_ne _ _ (fun e => nno e.symm), Store.get_set_self])
        | succ i =>
          simp only [List.getElem?_cons_succ] at hi hL
          have hid := List.mem_of_getElem? hi
          exact (k2.sets i id L hi hL).keep (by rw [Store.get_set_ne _ _ (ido id hid), Store.get_set_ne _ _ (nmf id (idl id hid))])
      · rw [List.nodup_cons]
        exact ⟨fun q => nmf nm (idl nm q) rfl, k2.nd⟩
      · rcases List.mem_cons.1 hid with rfl | hid
        · exact ⟨fun q => nmf id (by rw [k2.same id q]; exact hal id q) rfl, fun e => nmf mid am1 e.symm⟩
        · exact k2.nt id hid
      · have hj1 : (σ.get j).isSome = true := by rw [k2.same j hj]; exact hal j hj
        rw [Store.get_set_ne _ _ (fun e : j = oid => k2.ot (by rw [← e]; exact hj)), Store.get_set_ne _ _ (nmf j hj1)]
        exact k2.same j hj
    refine loop_rule (MLeft x σ0 xid mid oid others R k ids nm cur LS1) cur.length ⟨0, by omega, rfl, rfl, start⟩ ?_
    clear start k2 ro1 ro2 ax1 am1 nmf hnm nno hcg hcs
    rintro m fr σ ⟨i, h1, rfl, rfl, h2⟩
    have hwi : IntKind.i64.wrap ((i : Int) + 1) = ((i + 1 : Nat) : Int) := by rw [wrap_id (by omega) (by omega)]; rfl
    have qi : (0 : Int) ≤ (i : Int) := by omega
    simp only [go_sem, simprocAttr]
    refine .intro (fun hi => ?_) (fun hi => ?_)
    · have hs : cur[i]? = some cur[i] := List.getElem?_eq_getElem (by omega)
      generalize cur[i]'(by omega) = s at *
      have hsr : (stR cur)[i]? = some s.row := by unfold stR; rw [List.getElem?_map, hs]; rfl
      have hsv := hcv.2 s (List.mem_of_getElem? hs)
      have lsr : s.row.length = 2 := rfl
      have tsr : List.take 2 s.row = s.row := rfl
      have ksv : known s.val = some s.row := rfl
      simp only [go_sem, simprocAttr, hsr, qi, lsr, tsr]
      intro ab hab
      simp only [go_sem, simprocAttr, ksv, lsr, tsr, kk]
      have ax1 : (σ.get xid).isSome = true := by rw [h2.S.obj]; rfl
      have am1 : (σ.get mid).isSome = true := by obtain ⟨es, f, q1, _⟩ := h2.S.mp; rw [q1]; rfl
      have ao1 : (σ.get oid).isSome = true := by rw [h2.obj]; rfl
      have aid1 : ∀ id ∈ nm :: ids, (σ.get id).isSome = true := fun id hid => by obtain ⟨es, q1⟩ := h2.isMap hid; rw [q1]; rfl
      have aot1 : ∀ j ∈ others, (σ.get j).isSome = true := fun j hj => by rw [h2.same j hj]; exact hal j hj
      have h3 : LAt (σ.set ab (.row 0 false 2 [s.row])) σ0 x xid mid oid others k (nm :: ids) ((cur.take i).filter (x.hit LS1) :: x.leftL (R.drop (k + 1))) :=
        h2.keep (h2.S.keep (get_fresh hab ax1) (get_fresh hab am1)) (fun j hj => get_fresh hab (by
          rcases hj with rfl | hj | hj
          · exact ao1
          · exact aid1 j hj
          · exact aot1 j hj))
      have hab2 : (σ.set ab (.row 0 false 2 [s.row])).get ab = some (.row 0 false 2 [s.row]) := Store.get_set_self _ _ _
      have nabm : ∀ j, (σ.get j).isSome = true → j ≠ ab := fun j hj e => by rw [e, hab] at hj; cases hj
      have na1 : oid ≠ ab := nabm oid ao1
      have na2 : mid ≠ ab := nabm mid am1
      have na3 : ∀ id ∈ nm :: ids, id ≠ ab := fun id hid => nabm id (aid1 id hid)
      have na4 : ∀ j ∈ others, j ≠ ab := fun j hj => nabm j (aot1 j hj)
      clear ax1 am1 ao1 aid1 aot1 h2 hab nabm
      generalize σ.set ab (.row 0 false 2 [s.row]) = τ at *
      have hmo : mid ∉ ab :: oid :: (nm :: ids) ++ others := by
        intro q
        simp only [List.cons_append, List.mem_cons, List.mem_append] at q
        rcases q with q | q | q | q | q
        · exact na2 q
        · exact nmo q
        · exact (h3.nt nm (by simp)).2 q.symm
        · exact (h3.nt mid (by simp [q])).2 rfl
        · exact hno q
      have hall : Alive τ (ab :: oid :: (nm :: ids) ++ others) := by
        intro j hj
        simp only [List.cons_append, List.mem_cons, List.mem_append] at hj
        rcases hj with rfl | rfl | rfl | hj | hj
        · rw [hab2]; rfl
        · rw [h3.obj]; rfl
        · obtain ⟨es, q1⟩ := h3.isMap (id := j) (by simp); rw [q1]; rfl
        · obtain ⟨es, q1⟩ := h3.isMap (id := j) (by simp [hj]); rw [q1]; rfl
        · rw [h3.same j hj]; exact hal j hj
      refine (from_search_ok x hx s (by have := hsv.2; omega) h3.S hall hmo).mono fun rv σ2 hv => ?_
      obtain ⟨rfl, c1, c2⟩ := hv
      have h4 : LAt σ2 σ0 x xid mid oid others k (nm :: ids) ((cur.take i).filter (x.hit LS1) :: x.leftL (R.drop (k + 1))) :=
        h3.keep c1 (fun j hj => c2 j (by
          rcases hj with rfl | hj | hj
          · simp
          · simp only [List.cons_append, List.mem_cons, List.mem_append] at hj ⊢; rcases hj with hj | hj; simp [hj]; simp [hj]
          · simp [hj]))
      have hab3 := (c2 ab (by simp)).trans hab2
      have hll : (x.leads s).length ≤ 10000 := by
        unfold Cx.leads
        rw [List.length_append]
        have := x.leadsN_len s false x.g.n.toNat
        have := x.leadsN_len s true (2 * x.g.ls.length)
        have := hx.pts.ok.1
        have := hx.pts.ok.2.2.1
        omega
      have ehit : x.hit LS1 s = (x.leads s).any fun l => decide (l.to ∈ LS1) := rfl
      have eft := filter_take (x.hit LS1) cur i s hs
      rw [ehit] at eft
      generalize x.leads s = ld at *
      simp only [go_sem, simprocAttr, ldRows_len]
      refine loop_rule (ILeft x σ0 xid mid oid others R k ids nm cur LS1 ab i s ld) ld.length ⟨0, by omega, rfl, rfl, by simpa using h4, hab3⟩ ?_
      clear h4 h3 c1 c2 hab2 hab3 hall hmo
      rintro m fr σ3 ⟨q, j1, rfl, rfl, j2, j3⟩
      have hwq : IntKind.i64.wrap ((q : Int) + 1) = ((q + 1 : Nat) : Int) := by rw [wrap_id (by omega) (by omega)]; rfl
      have qq : (0 : Int) ≤ (q : Int) := by omega
      simp only [go_sem, simprocAttr]
      refine .intro (fun hq => ?_) (fun hq => ?_)
      · have hl : ld[q]? = some ld[q] := List.getElem?_eq_getElem (by omega)
        generalize ld[q]'(by omega) = l at *
        have hat := any_take' (fun l : Ld => decide (l.to ∈ LS1)) ld q l hl
        have hqr : (ldRows ld)[q]? = some l.row := by unfold ldRows; rw [List.getElem?_map, hl]; rfl
        have lq : l.row.length = 4 := rfl
        have tq : List.take 4 l.row = l.row := rfl
        have kq : known (.agg l.row) = some l.row := rfl
        have dq : List.take 2 (List.drop 2 l.row) = l.to.row := rfl
        simp only [go_sem, simprocAttr, hqr, qq, lq, tq]
        intro lb hlb
        simp only [go_sem, simprocAttr, kq, lq, tq]
        have ax1 : (σ3.get xid).isSome = true := by rw [j2.S.obj]; rfl
        have am1 : (σ3.get mid).isSome = true := by obtain ⟨es, f, q1, _⟩ := j2.S.mp; rw [q1]; rfl
        have ao1 : (σ3.get oid).isSome = true := by rw [j2.obj]; rfl
        have aid1 : ∀ id ∈ nm :: ids, (σ3.get id).isSome = true := fun id hid => by obtain ⟨es, q1⟩ := j2.isMap hid; rw [q1]; rfl
        have aot1 : ∀ j ∈ others, (σ3.get j).isSome = true := fun j hj => by rw [j2.same j hj]; exact hal j hj
        have j4 : LAt (σ3.set lb (.row 0 false 4 [l.row])) σ0 x xid mid oid others k (nm :: ids) (((cur.take i).filter (x.hit LS1) ++ if ((ld.take q).any fun l => decide (l.to ∈ LS1)) = true then [s] else []) :: x.leftL (R.drop (k + 1))) :=
          j2.keep (j2.S.keep (get_fresh hlb ax1) (get_fresh hlb am1)) (fun j hj => get_fresh hlb (by
            rcases hj with rfl | hj | hj
            · exact ao1
            · exact aid1 j hj
            · exact aot1 j hj))
        have j5 : (σ3.set lb (.row 0 false 4 [l.row])).get ab = some (.row 0 false 2 [s.row]) := (get_fresh hlb (by rw [j3]; rfl)).trans j3
        have rl : Ab.rowAt (σ3.set lb (.row 0 false 4 [l.row])) lb 0 = some (false, 4, [l.row]) := rowAt_self
        clear ax1 am1 ao1 aid1 aot1 j2 j3 hlb
        generalize σ3.set lb (.row 0 false 4 [l.row]) = τ3 at *
        have ro := rowAt_get j4.obj
        have rab := rowAt_get j5
        -- the set of the next round
        have hids : ids.length = (x.leftL (R.drop (k + 1))).length := by have := j4.len; simpa using this
        obtain ⟨id1, idr, hid1⟩ : ∃ a b, ids = a :: b := by
          cases hq : ids with
          | nil => rw [hq, hLS] at hids; simp at hids
          | cons a b => exact ⟨a, b, rfl⟩
        have M1 : SetAt τ3 id1 LS1 := j4.sets 1 id1 LS1 (by rw [hid1]; rfl) (by rw [hLS]; rfl)
        have M2 : SetAt τ3 nm ((cur.take i).filter (x.hit LS1) ++ if ((ld.take q).any fun l => decide (l.to ∈ LS1)) = true then [s] else []) := j4.sets 0 nm _ rfl rfl
        have hc1 : (lCells k (nm :: ids))[k + 1]? = some [.map id1] := by
          unfold lCells mRow
          rw [List.getElem?_append_right (by simp)]
          simp [hid1]
        have hc0 : (lCells k (nm :: ids))[k]? = some [.map nm] := by
          unfold lCells mRow
          rw [List.getElem?_append_right (by simp)]
          simp
        have hwk : IntKind.i64.wrap ((k : Int) + 1) = ((k + 1 : Nat) : Int) := by rw [wrap_id (by omega) (by omega)]; rfl
        have qk1 : (0 : Int) ≤ ((k + 1 : Nat) : Int) := by omega
        have hk1 : ((k + 1 : Nat) : Int) < (R.length : Int) := by omega
        have hlk := M1.look l.to
        unfold op25_53
        simp only [go_sem, simprocAttr, ro, hwk, qk, qk1, hk1, hc1, rl, lq, dq, kk, hlk]
        by_cases hin : l.to ∈ LS1
        · obtain ⟨o2, u2, M3⟩ := M2.upd s
          simp only [go_sem, simprocAttr, hin]
          unfold op25_61
          simp only [go_sem, simprocAttr, ro, qk, hkR, hc0, rab, lsr, tsr, kk, u2, hwq]
          have hnn : nm ∉ ids := (List.nodup_cons.1 j4.nd).1
          have ono : oid ≠ nm := fun e => by obtain ⟨es, q1⟩ := j4.isMap (id := nm) (by simp); rw [← e, j4.obj] at q1; cases q1
          have xno : xid ≠ nm := fun e => by obtain ⟨es, q1⟩ := j4.isMap (id := nm) (by simp); rw [← e, j4.S.obj] at q1; cases q1
          have mno : mid ≠ nm := fun e => (j4.nt nm (by simp)).2 e.symm
          have eany : ((ld.take (q + 1)).any fun l => decide (l.to ∈ LS1)) = true := by rw [hat]; simp [hin]
          refine back_of _ (by omega) ⟨q + 1, by omega, rfl, rfl, ⟨j4.S.keep (Store.get_set_ne _ _ xno) (Store.get_set_ne _ _ mno), by rw [Store.get_set_ne _ _ ono]; exact j4.obj, fun i' id L hi' hL => ?_, by simpa using hids, j4.nd, j4.nt, j4.ot, fun j hj => ?_⟩, ?_⟩
          · cases i' with
            | zero =>
              simp only [List.getElem?_cons_zero, Option.some.injEq] at hi' hL
              subst hi'
              subst hL
              refine M3.congr fun s' => ?_
              rw [if_pos eany]
              simp only [List.mem_append, List.mem_singleton]
              constructor
              · rintro ((h | h) | h)
                · exact .inl h
                · split at h
                  · exact .inr (List.mem_singleton.1 h)
                  · cases h
                · exact .inr h
              · rintro (h | h)
                · exact .inl (.inl h)
                · exact .inr h
            | succ i' =>
              simp only [List.getElem?_cons_succ] at hi' hL
              have hid := List.mem_of_getElem? hi'
              exact (j4.sets (i' + 1) id L (by simpa using hi') (by simpa using hL)).keep (Store.get_set_ne _ _ (fun e => hnn (e ▸ hid)))
          · rw [Store.get_set_ne _ _ (fun e : j = nm => (j4.nt nm (by simp)).1 (by rw [← e]; exact hj))]
            exact j4.same j hj
          · rw [Store.get_set_ne _ _ (fun e : ab = nm => na3 nm (by simp) e.symm)]
            exact j5
        · simp only [go_sem, simprocAttr, hin, hwq]
          have eany : ((ld.take (q + 1)).any fun l => decide (l.to ∈ LS1)) = ((ld.take q).any fun l => decide (l.to ∈ LS1)) := by rw [hat]; simp [hin]
          exact back_of _ (by omega) ⟨q + 1, by omega, rfl, rfl, by rw [eany]; exact j4, j5⟩
      · have eq : ld.take q = ld := List.take_of_length_le (by omega)
        rw [eq] at j2
        simp only [go_sem, simprocAttr, hwi]
        exact back_of _ (by omega) ⟨i + 1, by omega, rfl, rfl, by rw [eft]; exact j2⟩
    · have ei : cur.take i = cur := List.take_of_length_le (by omega)
      rw [ei, ← eleft] at h2
      have hwk : IntKind.i64.wrap ((k : Int) - 1) = (k : Int) - 1 := wrap_id (by omega) (by omega)
      simp only [go_sem, simprocAttr, hwk]
      exact back_of _ (by omega) ⟨k, nm :: ids, by omega, rfl, rfl, h2⟩
end Go.Proofs

set_option linter.unusedSimpArgs false
set_option linter.unusedVariables false
namespace Go.Proofs
open Go.Ab

def segs (l : List Sg) : List (List AVal) := l.map Sg.row
/-- A packet, but for what never changes. -/
structure Pk where
  l : List Sg
  es : List Int
  at_ : Int
  fin : Int
  ar : Int
  most : Int
structure Pw where
  g : Gr
  hash : Int
  down : List Bool
  strict : Bool
  depth : Int
def Pw.cells (w : Pw) (s : Pk) (ve : AVal) : List AVal := [w.g.tab, .sc (.int .i64 w.g.n), .lst (w.g.ls.map Lk.row), .lst (segs s.l), .sc (.int .i64 w.hash), .lst (bools w.down), .sc (.bool w.strict), .sc (.int .i64 w.depth), ve,
  .sc (.int .i64 s.at_), .sc (.int .i64 s.fin), .sc (.int .i64 s.ar), .sc (.int .i64 s.most)]
def Pw.val (w : Pw) (s : Pk) : AVal := .iptr (w.cells s (.lst (ints s.es))) 0

def segEnd (g : Gr) (x : Sg) : Int := if x.e then (g.ends x.t).2.1 else x.t
def labelBad (g : Gr) (x : Sg) (a : Int) : Bool := !g.isSeg x || (x.e && !decide ((g.ends x.t).1 = a))
def pickI (hash : Int) (k : Nat) : Nat := ((hash.tmod k + k).tmod k).toNat
def hopOf (w : Pw) (x : Sg) (a : Int) : Int × Bool :=
  if x.e then (x.t, true) else match (wnextOf w.g a x.t)[pickI w.hash (wnextOf w.g a x.t).length]? with
    | some e => (e, true)
    | none => (0, false)

theorem segs_all (l : List Sg) : (segs l).all (·.length == 2) = true := by simp [segs, Sg.row]
theorem end_ok (w : Pw) (s : Pk) (x : Sg) (r : List Sg) (hl : s.l = x :: r) (hx : x.t < 9223372036854775808) : PGood Try.prog 72 [w.val s] (.i (segEnd w.g x)) := by
  refine pgood_of_out 3 (good_of_wp isF72 (Nat.le_refl _) ?_)
  unfold ac72
  obtain ⟨e, t⟩ := x
  simp only [go_sem, simprocAttr, Pw.val, Pw.cells, hl, segs, List.map_cons, Sg.row]
  cases e with
  | false =>
    simp only [go_sem, simprocAttr]
    exact out_sc
  | true =>
    simp only [go_sem, simprocAttr]
    unfold op72_22
    simp only [go_sem, simprocAttr, Sg.row]
    refine goodD_imm (ends_ok w.g t hx) rfl ?_
    simp only [go_sem, simprocAttr]
    exact out_sc
theorem label_ok (w : Pw) (hok : w.g.Ok) (s : Pk) (x : Sg) (r : List Sg) (hl : s.l = x :: r) : PGood Try.prog 49 [w.val s] (.b (labelBad w.g x s.at_)) := by
  refine pgood_of_out 3 (good_of_wp isF49 (Nat.le_refl _) ?_)
  unfold ac49
  obtain ⟨e, t⟩ := x
  simp only [go_sem, simprocAttr, Pw.val, Pw.cells, hl, segs, List.map_cons, Sg.row]
  unfold op49_6
  simp only [go_sem, simprocAttr, Sg.row]
  refine goodD_imm (fib_is_ok w.g ⟨e, t⟩ (by have := hok.1; omega)) rfl ?_
  simp only [go_sem, simprocAttr]
  cases hs : w.g.isSeg ⟨e, t⟩ with
  | false =>
    simp only [go_sem, simprocAttr]
    refine sub_out out_sc ?_
    simp [labelBad, hs]
  | true =>
    simp only [go_sem, simprocAttr]
    have hb : t < 9223372036854775808 := by
      obtain ⟨q1, q2, q3, _⟩ := hok
      cases e <;> simp [Gr.isSeg] at hs <;> omega
    unfold op49_19
    simp only [go_sem, simprocAttr]
    refine goodD_imm (ends_ok w.g t hb) rfl ?_
    simp only [go_sem, simprocAttr]
    cases e with
    | false =>
      simp only [go_sem, simprocAttr]
      refine sub_out out_sc ?_
      simp [labelBad, hs]
    | true =>
      simp only [go_sem, simprocAttr]
      refine sub_out out_sc ?_
      simp [labelBad, hs]

theorem pickI_lt (hash : Int) {k : Nat} (hk : 0 < k) : 0 ≤ (hash.tmod k + k).tmod k ∧ (hash.tmod k + k).tmod k < k ∧ -(k : Int) < hash.tmod k ∧ hash.tmod k < k := by
  have h0 : (0 : Int) < k := by omega
  have h1 := Int.lt_tmod_of_pos hash h0
  have h2 := Int.tmod_lt_of_pos hash h0
  exact ⟨Int.tmod_nonneg _ (by omega), Int.tmod_lt_of_pos _ h0, h1, h2⟩
theorem hop_ok (w : Pw) (hok : w.g.Ok) (s : Pk) (x : Sg) (r : List Sg) (hl : s.l = x :: r) : PGood Try.prog 50 [w.val s] (.tup [.i (hopOf w x s.at_).1, .b (hopOf w x s.at_).2]) := by
  refine pgood_of_out 3 (good_of_wp isF50 (Nat.le_refl _) ?_)
  unfold ac50
  obtain ⟨e, t⟩ := x
  simp only [go_sem, simprocAttr, Pw.val, Pw.cells, hl, segs, List.map_cons, Sg.row]
  cases e with
  | true =>
    simp only [go_sem, simprocAttr]
    exact out_tup2 out_sc out_sc
  | false =>
    simp only [go_sem, simprocAttr]
    unfold op50_20
    simp only [go_sem, simprocAttr, Sg.row]
    refine goodD_imm (tnext_ok w.g s.at_ t hok.1) rfl ?_
    simp only [go_sem, simprocAttr]
    have hlen : (wnextOf w.g s.at_ t).length ≤ 240 := by
      unfold wnextOf
      split
      · have := wnext_len w.g t s.at_
        have := hok.1
        omega
      · simp
    have eh : hopOf w ⟨false, t⟩ s.at_ = match (wnextOf w.g s.at_ t)[pickI w.hash (wnextOf w.g s.at_ t).length]? with
        | some e => (e, true)
        | none => (0, false) := rfl
    by_cases h0 : (wnextOf w.g s.at_ t).length = 0
    · have e0 : wnextOf w.g s.at_ t = [] := List.eq_nil_of_length_eq_zero h0
      rw [e0] at eh
      simp only [go_sem, simprocAttr, e0]
      rw [eh]
      exact out_tup2 out_sc out_sc
    · generalize wnextOf w.g s.at_ t = nx at *
      have hp := pickI_lt w.hash (k := nx.length) (by omega)
      have hz : ¬ ((nx.length : Int) = 0) := by omega
      have hw1 : IntKind.i64.wrap (w.hash.tmod nx.length) = w.hash.tmod nx.length := wrap_id (by omega) (by omega)
      have hw2 : IntKind.i64.wrap (w.hash.tmod nx.length + nx.length) = w.hash.tmod nx.length + nx.length := wrap_id (by omega) (by omega)
      have hw3 : IntKind.i64.wrap ((w.hash.tmod nx.length + nx.length).tmod nx.length) = (w.hash.tmod nx.length + nx.length).tmod nx.length := wrap_id (by omega) (by omega)
      have hi : ((w.hash.tmod nx.length + nx.length).tmod nx.length).toNat < nx.length := by omega
      have hx : (ints nx)[((w.hash.tmod nx.length + nx.length).tmod nx.length).toNat]? = some [.sc (.int .i64 nx[((w.hash.tmod nx.length + nx.length).tmod nx.length).toNat])] := ints_get (List.getElem?_eq_getElem hi)
      have e2 : hopOf w ⟨false, t⟩ s.at_ = (nx[((w.hash.tmod nx.length + nx.length).tmod nx.length).toNat], true) := by
        rw [eh]
        have : nx[pickI w.hash nx.length]? = some nx[((w.hash.tmod nx.length + nx.length).tmod nx.length).toNat] := List.getElem?_eq_getElem hi
        rw [this]
      rw [e2]
      have hp0 := hp.1
      simp only [go_sem, simprocAttr, hz, hw1, hw2, hw3, hx, hp0]
      exact out_tup2 out_sc out_sc
end Go.Proofs

set_option linter.unusedSimpArgs false
set_option linter.unusedVariables false
namespace Go.Proofs
open Go.Ab

def PkAt (σ : Store) (pid : Nat) (w : Pw) (s : Pk) (others : List Nat) : Prop := pid ∉ others ∧ ∃ ve, σ.get pid = some (.row 0 false 13 [w.cells s ve]) ∧ Acc σ 1 ve (ints s.es) (pid :: others)
theorem PkAt.out {σ : Store} {pid : Nat} {w : Pw} {s : Pk} {others : List Nat} (h : PkAt σ pid w s others) : Out 4 σ (.ptr pid 0 0 0) (w.val s) := by
  obtain ⟨_, ve, h1, h2⟩ := h
  refine out_ptr (m := 3) (rowAt_get h1) rfl ?_
  exact ⟨out_imm rfl, out_sc, out_imm rfl, out_imm rfl, out_sc, out_imm rfl, out_sc, out_sc, acc_out h2 (ints_sc _), out_sc, out_sc, out_sc, out_sc, trivial⟩
def crossed (w : Pw) (s : Pk) (x : Sg) (r : List Sg) (e : Int) : Pk := { s with l := if x.e then r else x :: r, es := s.es ++ [e], at_ := (w.g.ends e).2.1 }

theorem cross_ok (w : Pw) (s : Pk) (x : Sg) (r : List Sg) (e : Int) (hl : s.l = x :: r) (he : e < 9223372036854775808) (hes : s.es.length ≤ 1000000) {σ : Store} {pid : Nat} {others : List Nat} (h : PkAt σ pid w s others) :
    Ab.Good Try.prog 52 [.ptr pid 0 0 0, .i e] σ (fun v σ' => v = .tup [] ∧ PkAt σ' pid w (crossed w s x r e) others ∧ ∀ j ∈ others, σ'.get j = σ.get j) := by
  refine good_of_wp isF52 (Nat.le_refl _) ?_
  unfold ac52
  obtain ⟨hno, ve, h1, h2⟩ := h
  obtain ⟨xe, xt⟩ := x
  have r1 := rowAt_get h1
  unfold Pw.cells at r1 h1
  rw [hl] at r1 h1
  simp only [go_sem, simprocAttr, r1, segs, List.map_cons, Sg.row]
  cases xe with
  | true =>
    have q1 : (1 : Int) ≤ ((segs (⟨true, xt⟩ :: r)).length : Int) := by simp [segs]; omega
    have q2 := segs_all (⟨true, xt⟩ :: r)
    have q3 : List.take ((segs (⟨true, xt⟩ :: r)).length - 1) (List.drop 1 (segs (⟨true, xt⟩ :: r))) = segs r := by
      simp only [segs, List.map_cons, List.length_cons, Nat.add_sub_cancel, List.drop_succ_cons, List.drop_zero]
      exact List.take_length
    simp only [go_sem, simprocAttr, r1, q1, q2, q3, Int.le_refl]
    have gS : (σ.set pid (.row 0 false 13 [[w.g.tab, .sc (.int .i64 w.g.n), .lst (w.g.ls.map Lk.row), .lst (segs r), .sc (.int .i64 w.hash), .lst (bools w.down), .sc (.bool w.strict), .sc (.int .i64 w.depth), ve, .sc (.int .i64 s.at_), .sc (.int .i64 s.fin), .sc (.int .i64 s.ar), .sc (.int .i64 s.most)]])).get pid = some (.row 0 false 13 [[w.g.tab, .sc (.int .i64 w.g.n), .lst (w.g.ls.map Lk.row), .lst (segs r), .sc (.int .i64 w.hash), .lst (bools w.down), .sc (.bool w.strict), .sc (.int .i64 w.depth), ve, .sc (.int .i64 s.at_), .sc (.int .i64 s.fin), .sc (.int .i64 s.ar), .sc (.int .i64 s.most)]]) := Store.get_set_self _ _ _
    have rS := rowAt_get gS
    have aS := h2.other (id := pid) (by simp) (.row 0 false 13 [[w.g.tab, .sc (.int .i64 w.g.n), .lst (w.g.ls.map Lk.row), .lst (segs r), .sc (.int .i64 w.hash), .lst (bools w.down), .sc (.bool w.strict), .sc (.int .i64 w.depth), ve, .sc (.int .i64 s.at_), .sc (.int .i64 s.fin), .sc (.int .i64 s.ar), .sc (.int .i64 s.most)]])
    intro a ha
    have alive : Alive (σ.set pid (.row 0 false 13 [[w.g.tab, .sc (.int .i64 w.g.n), .lst (w.g.ls.map Lk.row), .lst (segs r), .sc (.int .i64 w.hash), .lst (bools w.down), .sc (.bool w.strict), .sc (.int .i64 w.depth), ve, .sc (.int .i64 s.at_), .sc (.int .i64 s.fin), .sc (.int .i64 s.ar), .sc (.int .i64 s.most)]])) (pid :: others) := aS.1
    have c := (aS).fresh ha (.row 0 false 1 [[.sc (.int .i64 e)]])
    have f1 := rowAt_fresh (o := .row 0 false 1 [[.sc (.int .i64 e)]]) ha (j := pid) (ver := 0) (by rw [rS]; rfl)
    simp only [go_sem, simprocAttr, f1, rS]
    refine acc_append c (by simp only [ints_len, List.length_cons, List.length_nil]; omega) (by simp only [ints_len, List.length_cons, List.length_nil]; omega) fun ve' σ2 u1 u2 => ?_
    have g2 : σ2.get pid = some (.row 0 false 13 [[w.g.tab, .sc (.int .i64 w.g.n), .lst (w.g.ls.map Lk.row), .lst (segs r), .sc (.int .i64 w.hash), .lst (bools w.down), .sc (.bool w.strict), .sc (.int .i64 w.depth), ve, .sc (.int .i64 s.at_), .sc (.int .i64 s.fin), .sc (.int .i64 s.ar), .sc (.int .i64 s.most)]]) := by rw [u2 pid (by simp), get_fresh ha (alive pid (by simp)), gS]
    have r2 := rowAt_get g2
    have kn := u1.known
    simp only [go_sem, simprocAttr, r2, kn]
    refine good_imm (ends_ok w.g e he) rfl ?_
    simp only [go_sem, simprocAttr]
    have u3 := u1.less (o2 := pid :: others) fun y hy => List.mem_cons_of_mem _ hy
    refine ⟨⟨hno, ve', by simp [Pw.cells, crossed, segs, Sg.row], ?_⟩, fun j hj => ?_⟩
    · rw [show (crossed w s ⟨true, xt⟩ r e).es = s.es ++ [e] from rfl, ints_app]
      exact u3.other (by simp) _
    · rw [Store.get_set_ne _ _ (fun q : j = pid => hno (by rw [← q]; exact hj)), u2 j (by simp [hj]), get_fresh ha (alive j (by simp [hj]))]
      rw [Store.get_set_ne _ _ (fun q : j = pid => hno (by rw [← q]; exact hj))]
  | false =>
    simp only [go_sem, simprocAttr, r1]
    intro a ha
    have alive : Alive σ (pid :: others) := h2.1
    have c := (h2).fresh ha (.row 0 false 1 [[.sc (.int .i64 e)]])
    have f1 := rowAt_fresh (o := .row 0 false 1 [[.sc (.int .i64 e)]]) ha (j := pid) (ver := 0) (by rw [r1]; rfl)
    simp only [go_sem, simprocAttr, f1, r1]
    refine acc_append c (by simp only [ints_len, List.length_cons, List.length_nil]; omega) (by simp only [ints_len, List.length_cons, List.length_nil]; omega) fun ve' σ2 u1 u2 => ?_
    have g2 : σ2.get pid = some (.row 0 false 13 [[w.g.tab, .sc (.int .i64 w.g.n), .lst (w.g.ls.map Lk.row), .lst (segs (⟨false, xt⟩ :: r)), .sc (.int .i64 w.hash), .lst (bools w.down), .sc (.bool w.strict), .sc (.int .i64 w.depth), ve, .sc (.int .i64 s.at_), .sc (.int .i64 s.fin), .sc (.int .i64 s.ar), .sc (.int .i64 s.most)]]) := by rw [u2 pid (by simp), get_fresh ha (alive pid (by simp)), h1]
    have r2 := rowAt_get g2
    have kn := u1.known
    simp only [go_sem, simprocAttr, r2, kn]
    refine good_imm (ends_ok w.g e he) rfl ?_
    simp only [go_sem, simprocAttr]
    have u3 := u1.less (o2 := pid :: others) fun y hy => List.mem_cons_of_mem _ hy
    refine ⟨⟨hno, ve', by simp [Pw.cells, crossed, segs, Sg.row], ?_⟩, fun j hj => ?_⟩
    · rw [show (crossed w s ⟨false, xt⟩ r e).es = s.es ++ [e] from rfl, ints_app]
      exact u3.other (by simp) _
    · rw [Store.get_set_ne _ _ (fun q : j = pid => hno (by rw [← q]; exact hj)), u2 j (by simp [hj]), get_fresh ha (alive j (by simp [hj]))]
      
end Go.Proofs

set_option linter.unusedSimpArgs false
set_option linter.unusedVariables false
namespace Go.Proofs
open Go.Ab

def stepOf (w : Pw) (A : Int → Pk → Bool × Pk) (s : Pk) : Int × Pk :=
  match s.l with
  | [] => (1, s)
  | x :: r =>
    if x.e = false ∧ x.t = s.at_ then (0, { s with l := r })
    else if s.es.length = 255 then (2, s)
    else if labelBad w.g x s.at_ = true then (5, s)
    else if (hopOf w x s.at_).2 = false then (4, s)
    else if isUp w.down (hopOf w x s.at_).1 = true then (0, crossed w s x r (hopOf w x s.at_).1)
    else if w.strict = true then (3, s)
    else if (A (hopOf w x s.at_).1 s).1 = false then (3, (A (hopOf w x s.at_).1 s).2)
    else if (A (hopOf w x s.at_).1 s).2.ar = 255 then (2, (A (hopOf w x s.at_).1 s).2) else (0, (A (hopOf w x s.at_).1 s).2)

theorem hop_range {w : Pw} (hok : w.g.Ok) {x : Sg} {a : Int} (h1 : labelBad w.g x a = false) (h2 : (hopOf w x a).2 = true) : 0 ≤ (hopOf w x a).1 ∧ (hopOf w x a).1 < 2 * (w.g.ls.length : Int) := by
  obtain ⟨e, t⟩ := x
  cases e with
  | true =>
    have : w.g.isSeg ⟨true, t⟩ = true := by
      cases hs : w.g.isSeg ⟨true, t⟩ with
      | true => rfl
      | false => simp [labelBad, hs] at h1
    simpa [hopOf, Gr.isSeg] using this
  | false =>
    have eh : hopOf w ⟨false, t⟩ a = match (wnextOf w.g a t)[pickI w.hash (wnextOf w.g a t).length]? with
        | some e => (e, true)
        | none => (0, false) := rfl
    rw [eh] at h2 ⊢
    cases hg : (wnextOf w.g a t)[pickI w.hash (wnextOf w.g a t).length]? with
    | none => rw [hg] at h2; cases h2
    | some e =>
      have hm := List.mem_of_getElem? hg
      unfold wnextOf at hm
      split at hm
      · unfold wnext nextOf at hm
        split at hm
        · have := Gr.mem_out (List.mem_filter.1 hm).1
          exact ⟨this.1, this.2.1⟩
        · cases hm
      · cases hm

/-- What a walk never exceeds. -/
structure Bd (s : Pk) : Prop where
  es : s.es.length ≤ 255
  l : s.l.length ≤ 1000000
  ar : 0 ≤ s.ar ∧ s.ar ≤ 1000
  most : 0 ≤ s.most ∧ s.most ≤ 1000000
def AroundOk (w : Pw) (A : Int → Pk → Bool × Pk) : Prop := ∀ (σ : Store) (pid : Nat) (others : List Nat) (s : Pk) (x : Sg) (r : List Sg) (e : Int), s.l = x :: r → labelBad w.g x s.at_ = false → hopOf w x s.at_ = (e, true) → isUp w.down e = false → w.strict = false → Bd s → PkAt σ pid w s others →
  Ab.Good Try.prog 53 [.ptr pid 0 0 0, .i e] σ (fun v σ' => v = .b (A e s).1 ∧ PkAt σ' pid w (A e s).2 others ∧ ∀ j ∈ others, σ'.get j = σ.get j)

theorem step_ok (w : Pw) (hok : w.g.Ok) (A : Int → Pk → Bool × Pk) (hA : AroundOk w A) (s : Pk) (hbd : Bd s) {σ : Store} {pid : Nat} {others : List Nat} (h : PkAt σ pid w s others) :
    Ab.Good Try.prog 29 [.ptr pid 0 0 0] σ (fun v σ' => v = .i (stepOf w A s).1 ∧ PkAt σ' pid w (stepOf w A s).2 others ∧ ∀ j ∈ others, σ'.get j = σ.get j) := by
  have hes := hbd.es
  refine good_of_wp isF29 (Nat.le_refl _) ?_
  unfold ac29
  obtain ⟨hno, ve, h1, h2⟩ := id h
  have r1 := rowAt_get h1
  cases hl : s.l with
  | nil =>
    have e1 : stepOf w A s = (1, s) := by unfold stepOf; rw [hl]
    rw [e1]
    unfold Pw.cells at r1
    rw [hl] at r1
    simp only [go_sem, simprocAttr, r1, segs, List.map_nil]
    exact ⟨h, fun _ _ => trivial⟩
  | cons x r =>
    obtain ⟨xe, xt⟩ := x
    have e1 : stepOf w A s = if xe = false ∧ xt = s.at_ then (0, { s with l := r })
        else if s.es.length = 255 then (2, s)
        else if labelBad w.g ⟨xe, xt⟩ s.at_ = true then (5, s)
        else if (hopOf w ⟨xe, xt⟩ s.at_).2 = false then (4, s)
        else if isUp w.down (hopOf w ⟨xe, xt⟩ s.at_).1 = true then (0, crossed w s ⟨xe, xt⟩ r (hopOf w ⟨xe, xt⟩ s.at_).1)
        else if w.strict = true then (3, s)
        else if (A (hopOf w ⟨xe, xt⟩ s.at_).1 s).1 = false then (3, (A (hopOf w ⟨xe, xt⟩ s.at_).1 s).2)
        else if (A (hopOf w ⟨xe, xt⟩ s.at_).1 s).2.ar = 255 then (2, (A (hopOf w ⟨xe, xt⟩ s.at_).1 s).2) else (0, (A (hopOf w ⟨xe, xt⟩ s.at_).1 s).2) := by
      unfold stepOf; rw [hl]
    have r1' := r1
    unfold Pw.cells at r1
    rw [hl] at r1
    have q1 : (1 : Int) ≤ ((segs (⟨xe, xt⟩ :: r)).length : Int) := by simp [segs]; omega
    have q0 : ¬ (((segs (⟨xe, xt⟩ :: r)).length : Int) = 0) := by omega
    have q4 : (segs (⟨xe, xt⟩ :: r))[0]? = some [.sc (.bool xe), .sc (.int .i64 xt)] := rfl
    simp only [go_sem, simprocAttr, r1, q0]
    unfold op29_13
    simp only [go_sem, simprocAttr, r1, q4]
    cases xe with
    | false =>
      simp only [go_sem, simprocAttr, r1, q4]
      refine .intro (fun h3 => ?_) (fun h3 => ?_)
      · rw [if_pos ⟨rfl, h3⟩] at e1
        rw [e1]
        have q2 := segs_all (⟨false, xt⟩ :: r)
        have q3 : List.take ((segs (⟨false, xt⟩ :: r)).length - 1) (List.drop 1 (segs (⟨false, xt⟩ :: r))) = segs r := by
          simp only [segs, List.map_cons, List.length_cons, Nat.add_sub_cancel, List.drop_succ_cons, List.drop_zero]
          exact List.take_length
        simp only [go_sem, simprocAttr, r1, q1, q2, q3, Int.le_refl]
        refine ⟨⟨hno, ve, by simp [Pw.cells], h2.other (by simp) _⟩, fun j hj => ?_⟩
        rw [Store.get_set_ne _ _ (fun q : j = pid => hno (by rw [← q]; exact hj))]
      · rw [if_neg (fun q => h3 q.2)] at e1
        by_cases c2 : s.es.length = 255
        · have c2' : (s.es.length : Int) = 255 := by omega
          rw [if_pos c2] at e1
          rw [e1]
          simp only [go_sem, simprocAttr, r1, h2.len, ints_len, c2']
          exact ⟨h, fun _ _ => trivial⟩
        have c2' : ¬ ((s.es.length : Int) = 255) := by omega
        rw [if_neg c2] at e1
        simp only [go_sem, simprocAttr, r1, h2.len, ints_len, c2']
        refine good_out 4 (outL1 h.out) (label_ok w hok s ⟨false, xt⟩ r hl) rfl ?_
        cases c3 : labelBad w.g ⟨false, xt⟩ s.at_ with
        | true =>
          rw [if_pos c3] at e1
          rw [e1]
          simp only [go_sem, simprocAttr]
          exact ⟨h, fun _ _ => trivial⟩
        | false =>
        rw [if_neg (by rw [c3]; decide)] at e1
        simp only [go_sem, simprocAttr]
        refine good_out 4 (outL1 h.out) (hop_ok w hok s ⟨false, xt⟩ r hl) rfl ?_
        simp only [go_sem, simprocAttr]
        cases c4 : (hopOf w ⟨false, xt⟩ s.at_).2 with
        | false =>
          rw [if_pos c4] at e1
          rw [e1]
          simp only [go_sem, simprocAttr]
          exact ⟨h, fun _ _ => trivial⟩
        | true =>
        rw [if_neg (by rw [c4]; decide)] at e1
        have hr := hop_range hok c3 c4
        have hb1 := hok.1
        have ehop : hopOf w ⟨false, xt⟩ s.at_ = ((hopOf w ⟨false, xt⟩ s.at_).1, true) := Prod.ext rfl c4
        generalize (hopOf w ⟨false, xt⟩ s.at_).1 = ed at *
        simp only [go_sem, simprocAttr, r1]
        refine good_imm (up_ok w.down ed (by omega) (by omega)) rfl ?_
        cases c5 : isUp w.down ed with
        | true =>
          rw [if_pos c5] at e1
          rw [e1]
          simp only [go_sem, simprocAttr]
          refine (cross_ok w s ⟨false, xt⟩ r ed hl (by omega) (by omega) h).mono fun v σ2 hv => ?_
          obtain ⟨rfl, k1, k2⟩ := hv
          simp only [go_sem, simprocAttr]
          exact ⟨k1, k2⟩
        | false =>
        rw [if_neg (by rw [c5]; decide)] at e1
        simp only [go_sem, simprocAttr, r1]
        cases c6 : w.strict with
        | true =>
          rw [if_pos c6] at e1
          rw [e1]
          simp only [go_sem, simprocAttr]
          exact ⟨h, fun _ _ => trivial⟩
        | false =>
        rw [if_neg (by rw [c6]; decide)] at e1
        simp only [go_sem, simprocAttr]
        refine (hA σ pid others s ⟨false, xt⟩ r ed hl c3 ehop c5 c6 hbd h).mono fun v σ2 hv => ?_
        obtain ⟨rfl, k1, k2⟩ := hv
        simp only [go_sem, simprocAttr]
        cases c7 : (A ed s).1 with
        | false =>
          rw [if_pos c7] at e1
          rw [e1]
          simp only [go_sem, simprocAttr]
          exact ⟨k1, k2⟩
        | true =>
        rw [if_neg (by rw [c7]; decide)] at e1
        obtain ⟨_, ve2, g1, g2⟩ := id k1
        have r2 := rowAt_get g1
        unfold Pw.cells at r2
        simp only [go_sem, simprocAttr, r2]
        refine .intro (fun c8 => ?_) (fun c8 => ?_)
        · rw [if_pos c8] at e1
          rw [e1]
          simp only [go_sem, simprocAttr]
          exact ⟨k1, k2⟩
        · rw [if_neg c8] at e1
          rw [e1]
          simp only [go_sem, simprocAttr]
          exact ⟨k1, k2⟩
    | true =>
      rw [if_neg (fun q => by cases q.1)] at e1
      simp only [go_sem, simprocAttr, r1, q4]
      by_cases c2 : s.es.length = 255
      · have c2' : (s.es.length : Int) = 255 := by omega
        rw [if_pos c2] at e1
        rw [e1]
        simp only [go_sem, simprocAttr, r1, h2.len, ints_len, c2']
        exact ⟨h, fun _ _ => trivial⟩
      have c2' : ¬ ((s.es.length : Int) = 255) := by omega
      rw [if_neg c2] at e1
      simp only [go_sem, simprocAttr, r1, h2.len, ints_len, c2']
      refine good_out 4 (outL1 h.out) (label_ok w hok s ⟨true, xt⟩ r hl) rfl ?_
      cases c3 : labelBad w.g ⟨true, xt⟩ s.at_ with
      | true =>
        rw [if_pos c3] at e1
        rw [e1]
        simp only [go_sem, simprocAttr]
        exact ⟨h, fun _ _ => trivial⟩
      | false =>
      rw [if_neg (by rw [c3]; decide)] at e1
      simp only [go_sem, simprocAttr]
      refine good_out 4 (outL1 h.out) (hop_ok w hok s ⟨true, xt⟩ r hl) rfl ?_
      simp only [go_sem, simprocAttr]
      cases c4 : (hopOf w ⟨true, xt⟩ s.at_).2 with
      | false =>
        rw [if_pos c4] at e1
        rw [e1]
        simp only [go_sem, simprocAttr]
        exact ⟨h, fun _ _ => trivial⟩
      | true =>
      rw [if_neg (by rw [c4]; decide)] at e1
      have hr := hop_range hok c3 c4
      have hb1 := hok.1
      have ehop : hopOf w ⟨true, xt⟩ s.at_ = ((hopOf w ⟨true, xt⟩ s.at_).1, true) := Prod.ext rfl c4
      generalize (hopOf w ⟨true, xt⟩ s.at_).1 = ed at *
      simp only [go_sem, simprocAttr, r1]
      refine good_imm (up_ok w.down ed (by omega) (by omega)) rfl ?_
      cases c5 : isUp w.down ed with
      | true =>
        rw [if_pos c5] at e1
        rw [e1]
        simp only [go_sem, simprocAttr]
        refine (cross_ok w s ⟨true, xt⟩ r ed hl (by omega) (by omega) h).mono fun v σ2 hv => ?_
        obtain ⟨rfl, k1, k2⟩ := hv
        simp only [go_sem, simprocAttr]
        exact ⟨k1, k2⟩
      | false =>
      rw [if_neg (by rw [c5]; decide)] at e1
      simp only [go_sem, simprocAttr, r1]
      cases c6 : w.strict with
      | true =>
        rw [if_pos c6] at e1
        rw [e1]
        simp only [go_sem, simprocAttr]
        exact ⟨h, fun _ _ => trivial⟩
      | false =>
      rw [if_neg (by rw [c6]; decide)] at e1
      simp only [go_sem, simprocAttr]
      refine (hA σ pid others s ⟨true, xt⟩ r ed hl c3 ehop c5 c6 hbd h).mono fun v σ2 hv => ?_
      obtain ⟨rfl, k1, k2⟩ := hv
      simp only [go_sem, simprocAttr]
      cases c7 : (A ed s).1 with
      | false =>
        rw [if_pos c7] at e1
        rw [e1]
        simp only [go_sem, simprocAttr]
        exact ⟨k1, k2⟩
      | true =>
      rw [if_neg (by rw [c7]; decide)] at e1
      obtain ⟨_, ve2, g1, g2⟩ := id k1
      have r2 := rowAt_get g1
      unfold Pw.cells at r2
      simp only [go_sem, simprocAttr, r2]
      refine .intro (fun c8 => ?_) (fun c8 => ?_)
      · rw [if_pos c8] at e1
        rw [e1]
        simp only [go_sem, simprocAttr]
        exact ⟨k1, k2⟩
      · rw [if_neg c8] at e1
        rw [e1]
        simp only [go_sem, simprocAttr]
        exact ⟨k1, k2⟩
end Go.Proofs

set_option linter.unusedSimpArgs false
set_option linter.unusedVariables false
namespace Go.Proofs
open Go.Ab

def runOf (w : Pw) (A : Int → Pk → Bool × Pk) : Nat → Pk → Pk
  | 0, s => s
  | f + 1, s => if (stepOf w A s).1 = 0 then runOf w A f (stepOf w A s).2 else { (stepOf w A s).2 with fin := (stepOf w A s).1 }
def walkVal (s : Pk) : AVal := .agg [.lst (ints s.es), .sc (.int .i64 s.at_), .sc (.int .i64 s.fin), .sc (.int .i64 s.ar), .sc (.int .i64 s.most)]
def pk0 (l : List Sg) (from_ : Int) : Pk := ⟨l, [], from_, 0, 0, l.length⟩
def cutD (d : Int) : Int := if 0 < (if 10 < d then 10 else d) then (if 10 < d then 10 else d) else 0
theorem runOf_fuel {w : Pw} {A : Int → Pk → Bool × Pk} {J : Pk → Prop} {μ : Pk → Nat} (hJ : ∀ s, J s → (stepOf w A s).1 = 0 → J (stepOf w A s).2 ∧ μ (stepOf w A s).2 < μ s) : ∀ (f f' : Nat) (s : Pk), J s → μ s < f → μ s < f' → runOf w A f s = runOf w A f' s
  | 0, _, _, _, h, _ => by omega
  | _ + 1, 0, _, _, _, h => by omega
  | f + 1, f' + 1, s, hs, h, h' => by
    simp only [runOf]
    split
    · rename_i h0
      obtain ⟨h1, h2⟩ := hJ s hs h0
      exact runOf_fuel hJ f f' _ h1 (by omega) (by omega)
    · rfl
def RunInv (w : Pw) (A : Int → Pk → Bool × Pk) (J : Pk → Prop) (μ : Pk → Nat) (R : Pk) (cid pid : Nat) (m : Nat) (fr : Fr) (σ : Store) : Prop :=
  ∃ s : Pk, fr = [(14, .ptr cid 0 0 0), (16, .ptr pid 0 0 0)] ∧ PkAt σ pid w s [cid] ∧ σ.get cid = some (.row 0 false 5 [[.nils, .sc (.int .i64 0), .sc (.int .i64 0), .sc (.int .i64 0), .sc (.int .i64 0)]]) ∧
    ((s.fin = 0 ∧ J s ∧ m = μ s + 1 ∧ runOf w A (μ s + 1) s = R) ∨ (s.fin ≠ 0 ∧ m = 0 ∧ s = R))

theorem run_ok (w : Pw) (hok : w.g.Ok) (A : Int → Pk → Bool × Pk) (hA : AroundOk w A) (from_ : Int) (l : List Sg) (d0 : Int) (hd : w.depth = cutD d0) (hl : l.length < 1000000) (J : Pk → Prop) (μ : Pk → Nat) (h0 : J (pk0 l from_))
    (hJ : ∀ s, J s → s.fin = 0 ∧ Bd s ∧ (stepOf w A s).2.fin = 0 ∧ ((stepOf w A s).1 = 0 → J (stepOf w A s).2 ∧ μ (stepOf w A s).2 < μ s)) (hf : 0 ≤ from_ ∧ from_ < w.g.n) :
    PGood Try.prog 14 [w.g.tab, .i from_, .lst (segs l), .i w.hash, .lst (bools w.down), .b w.strict, .i d0] (walkVal (runOf w A (μ (pk0 l from_) + 1) (pk0 l from_))) := by
  refine pgood_of_out 4 (good_of_wp isF14 (Nat.le_refl _) ?_)
  unfold ac14
  simp only [go_sem, simprocAttr]
  intro cid hcid
  simp only [go_sem, simprocAttr]
  refine good_imm (tgraph_ok w.g (by have := hok.1; omega)) rfl ?_
  simp only [go_sem, simprocAttr, Gr.val]
  intro gid hgid
  have f1 := fun o => rowAt_fresh (o := o) hgid (j := cid) (ver := 0) (by rw [rowAt_self]; rfl)
  simp only [go_sem, simprocAttr]
  refine good_imm (is_ok w.g.n _ from_) rfl ?_
  have ktab : known w.g.tab = some [w.g.tab] := rfl
  simp only [go_sem, simprocAttr, hf, ktab]
  intro pid hpid
  have f2 := fun o => rowAt_fresh (o := o) hpid (j := cid) (ver := 0) (by rw [f1, rowAt_self]; rfl)
  simp only [go_sem, simprocAttr]
  have hc : cid ≠ pid := fun e => by rw [← e] at hpid; rw [get_fresh hgid (by simp)] at hpid; simp at hpid
  refine loop_rule (RunInv w A J μ (runOf w A (μ (pk0 l from_) + 1) (pk0 l from_)) cid pid) (μ (pk0 l from_) + 1) ?_ ?_
  · refine ⟨pk0 l from_, rfl, ⟨by simpa using hc.symm, .nils, ?_, acc_nils ?_⟩, ?_, .inl ⟨rfl, h0, rfl, rfl⟩⟩
    · rw [Store.get_set_self]
      simp [Pw.cells, pk0, hd, cutD, segs]
    · have gp : ∀ o : Ab.Obj, (((Store.empty.set cid (.row 0 false 5 [[.nils, .sc (.int .i64 0), .sc (.int .i64 0), .sc (.int .i64 0), .sc (.int .i64 0)]])).set gid (.row 0 false 2 [[.sc (.int .i64 w.g.n), .lst (w.g.ls.map Lk.row)]])).set pid o).get cid = some (.row 0 false 5 [[.nils, .sc (.int .i64 0), .sc (.int .i64 0), .sc (.int .i64 0), .sc (.int .i64 0)]]) := fun o => by
        rw [Store.get_set_ne _ _ hc, get_fresh hgid (by simp)]; simp
      exact alive_cons (Store.get_set_self _ _ _) (alive_cons (gp _) alive_nil)
    · rw [Store.get_set_ne _ _ hc, get_fresh hgid (by simp)]; simp
  · rintro m fr σ ⟨s, rfl, h1, h2, h3⟩
    obtain ⟨hno, ve, g1, g2⟩ := id h1
    have r1 := rowAt_get g1
    unfold Pw.cells at r1
    simp only [go_sem, simprocAttr, r1]
    refine .intro (fun h4 => ?_) (fun h4 => ?_)
    · simp only [go_sem, simprocAttr]
      rcases h3 with ⟨k1, k2, k3, k4⟩ | ⟨k1, _, _⟩
      · obtain ⟨j1, j2, j3, j4⟩ := hJ s k2
        refine (step_ok w hok A hA s j2 h1).mono fun v σ2 hv => ?_
        obtain ⟨rfl, u1, u2⟩ := hv
        obtain ⟨_, ve2, g3, g4⟩ := id u1
        have r2 := rowAt_get g3
        unfold Pw.cells at r2
        simp only [go_sem, simprocAttr, r2]
        have hcp : cid ≠ pid := fun e => hno (by simp [e])
        have g5 : σ2.get cid = σ.get cid := u2 cid (by simp)
        by_cases c0 : (stepOf w A s).1 = 0
        · obtain ⟨j5, j6⟩ := j4 c0
          have e2 : (stepOf w A s).2 = { (stepOf w A s).2 with fin := (stepOf w A s).1 } := by rw [c0, ← j3]
          refine back_of (μ (stepOf w A s).2 + 1) (by omega) ⟨(stepOf w A s).2, rfl, ⟨by simpa using hcp.symm, ve2, ?_, g4.other (by simp) _⟩, ?_, .inl ⟨j3, j5, rfl, ?_⟩⟩
          · rw [Store.get_set_self, c0]
            simp [Pw.cells, j3]
          · rw [Store.get_set_ne _ _ hcp, g5, h2]
          · rw [← k4]
            have : runOf w A (μ s + 1) s = runOf w A (μ s) (stepOf w A s).2 := by simp only [runOf, c0, if_true]
            rw [this]
            exact runOf_fuel (J := J) (μ := μ) (fun s hs hc => (hJ s hs).2.2.2 hc) _ _ _ j5 (by omega) (by omega)
        · refine back_of 0 (by omega) ⟨{ (stepOf w A s).2 with fin := (stepOf w A s).1 }, rfl, ⟨by simpa using hcp.symm, ve2, ?_, g4.other (by simp) _⟩, ?_, .inr ⟨c0, rfl, ?_⟩⟩
          · rw [Store.get_set_self]
            simp [Pw.cells]
          · rw [Store.get_set_ne _ _ hcp, g5, h2]
          · rw [← k4]
            simp only [runOf, c0, if_false]
      · exact absurd h4 k1
    · simp only [go_sem, simprocAttr, r1]
      have r2 := rowAt_get h2
      have kn := g2.known
      simp only [go_sem, simprocAttr, r2, kn]
      rcases h3 with ⟨k1, _, _, _⟩ | ⟨_, _, k3⟩
      · exact absurd k1 h4
      · rw [← k3]
        refine out_agg (m := 3) ⟨acc_out (g2.other (id := cid) (by simp) _) (ints_sc _), out_sc, out_sc, out_sc, out_sc, trivial⟩
end Go.Proofs

set_option linter.unusedSimpArgs false
set_option linter.unusedVariables false
namespace Go.Proofs
open Go.Ab

/-! ### compile.List -/
def Cx.pick (x : Cx) : List (List St) → St → List Sg
  | [], _ => []
  | L :: r, s => match (x.leads s).find? (fun l => decide (l.to ∈ L)) with
    | some l => l.s :: x.pick r l.to
    | none => x.pick r s
def cxOf (g : Gr) (w : Wt) (down : List Bool) : Cx := ⟨g, w.pts, goneAll g w down, (costOf g w down).1, w.goal⟩
def listOf (g : Gr) (w : Wt) (down : List Bool) (d : Int) : List Sg × Int :=
  if (costOf g w down).2 = 0 then
    match (cxOf g w down).roundsF (cutD d).toNat [w.start] [[w.start]] [w.start] with
    | some R => ((cxOf g w down).pick (((cxOf g w down).leftL R).drop 1) w.start, 0)
    | none => ([], 9)
  else ([], (costOf g w down).2)
theorem cutD_rng (d : Int) : 0 ≤ cutD d ∧ cutD d ≤ 10 := by unfold cutD; split <;> split <;> omega
theorem start_valid {g : Gr} {w : Wt} (h : rightOf g w = 0) : VSt g w.start := by
  have := (ptsOk_of h).len
  have e : w.start.at_ = w.from_ := rfl
  exact ⟨(right_facts h).2.1 _ (by rw [e]; simp [Wt.pts]), by have := start_n (w := w); omega⟩
theorem roundsF_spec {x : Cx} (hx : x.Ok) : ∀ (k : Nat) (seen : List St) (out : List (List St)) (cur : List St) (R : List (List St)), x.roundsF k seen out cur = some R → (∃ s0, SInv x s0 (seen, cur)) → (∀ r ∈ out, r.length ≤ 280 ∧ ∀ s ∈ r, VSt x.g s) →
    out.length ≤ R.length ∧ R.length ≤ out.length + k ∧ ∀ r ∈ R, r.length ≤ 280 ∧ ∀ s ∈ r, VSt x.g s := by
  intro k
  induction k with
  | zero =>
    intro seen out cur R h hs ho
    unfold Cx.roundsF at h
    split at h
    · injection h with h; subst h; exact ⟨Nat.le_refl _, by omega, ho⟩
    · cases h
  | succ k ih =>
    intro seen out cur R h ⟨s0, hs⟩ ho
    unfold Cx.roundsF at h
    split at h
    · injection h with h; subst h; exact ⟨Nat.le_refl _, by omega, ho⟩
    · have a0 : SInv x seen (seen, []) := ⟨by simp, hs.nd, hs.val⟩
      have a1 := SInv.foldIn hx cur _ a0
      have hl := a1.len hx
      have := ih _ _ _ R h ⟨seen, a1⟩ (fun r hr => by
        rcases List.mem_append.1 hr with hr | hr
        · exact ho r hr
        · rw [List.mem_singleton.1 hr]
          exact ⟨hl.2, fun s hs' => a1.val s (by rw [a1.eq]; exact List.mem_append_right _ hs')⟩)
      rw [List.length_append] at this
      simp only [List.length_cons, List.length_nil] at this
      exact ⟨by omega, by omega, this.2.2⟩
theorem segs_imm (l : List Sg) (n : Nat) : ∀ y ∈ segs l, ∀ c ∈ y, immA (n + 1) c = true := by
  intro y hy c hc
  simp only [segs, List.mem_map] at hy
  obtain ⟨k, _, rfl⟩ := hy
  simp only [Sg.row, List.mem_cons, List.mem_nil_iff, or_false] at hc
  rcases hc with rfl | rfl <;> rfl
theorem segs_app (a b : List Sg) : segs (a ++ b) = segs a ++ segs b := by simp [segs]
theorem segs_len (a : List Sg) : (segs a).length = a.length := by simp [segs]

structure PAt (σ : Store) (x : Cx) (xid mid oid ab : Nat) (ids : List Nat) (LS : List (List St)) (s : St) (v : AVal) (out : List Sg) : Prop where
  L : LAt σ σ x xid mid oid [] 0 ids LS
  ab_ : σ.get ab = some (.row 0 false 2 [s.row])
  acc : Ab.Acc σ 2 v (segs out) (ab :: oid :: xid :: mid :: ids)
theorem PAt.alive {σ : Store} {x : Cx} {xid mid oid ab : Nat} {ids : List Nat} {LS : List (List St)} {s : St} {v : AVal} {out : List Sg} (h : PAt σ x xid mid oid ab ids LS s v out) : Alive σ (ab :: oid :: xid :: mid :: ids) := h.acc.1
/-- Something new lies beside. -/
theorem PAt.fresh {σ : Store} {x : Cx} {xid mid oid ab : Nat} {ids : List Nat} {LS : List (List St)} {s : St} {v : AVal} {out : List Sg} (h : PAt σ x xid mid oid ab ids LS s v out) {id : Nat} (hid : σ.get id = none) (o : Ab.Obj) : PAt (σ.set id o) x xid mid oid ab ids LS s v out := by
  have al := h.alive
  have g : ∀ j ∈ ab :: oid :: xid :: mid :: ids, (σ.set id o).get j = σ.get j := fun j hj => get_fresh hid (al j hj)
  refine ⟨?_, (g ab (by simp)).trans h.ab_, (h.acc.fresh hid o).less (by intro z hz; simp [hz])⟩
  have := h.L.keep (σ' := σ.set id o) (h.L.S.keep (g xid (by simp)) (g mid (by simp))) (fun j hj => g j (by
    rcases hj with rfl | hj | hj
    · simp
    · simp [hj]
    · cases hj))
  exact ⟨this.S, this.obj, this.sets, this.len, this.nd, this.nt, this.ot, fun _ _ => rfl⟩

def OPick (x : Cx) (xid mid oid ab : Nat) (ids : List Nat) (LS : List (List St)) (T : List Sg) (m : Nat) (fr : Fr) (σ : Store) : Prop :=
  ∃ (i : Nat) (s : St) (v : AVal) (out : List Sg), i + 1 ≤ LS.length ∧ m = LS.length - i ∧ fr = [(12, .ptr xid 0 0 0), (13, .ptr ab 0 0 0), (17, v), (55, .sl oid 0 1 (LS.length - 1) 1), (56, .i (LS.length - 1 : Nat)), (57, .i i)] ∧ PAt σ x xid mid oid ab ids LS s v out ∧ VSt x.g s ∧ out.length ≤ i ∧ out ++ x.pick (LS.drop (i + 1)) s = T
def IPick (x : Cx) (xid mid oid ab : Nat) (ids : List Nat) (LS : List (List St)) (i idm : Nat) (L : List St) (s : St) (v : AVal) (out : List Sg) (ld : List Ld) (m : Nat) (fr : Fr) (σ : Store) : Prop :=
  ∃ q : Nat, q ≤ ld.length ∧ m = ld.length - q ∧ fr = [(12, .ptr xid 0 0 0), (13, .ptr ab 0 0 0), (17, v), (19, .map idm), (55, .sl oid 0 1 (LS.length - 1) 1), (56, .i (LS.length - 1 : Nat)), (57, .i i), (63, .lst (ldRows ld)), (64, .i ld.length), (65, .i q)] ∧
    PAt σ x xid mid oid ab ids LS s v out ∧ ld.find? (fun l => decide (l.to ∈ L)) = (ld.drop q).find? (fun l => decide (l.to ∈ L))

theorem list_ok (g : Gr) (w : Wt) (hw : w.Few) (down : List Bool) (hd : down.length ≤ 1000000) (hg : g.ls.length ≤ 1000000) (d : Int) : PGood Try.prog 12 [g.tab, w.val, .lst (bools down), .i d] (.tup [.lst (segs (listOf g w down d).1), .i (listOf g w down d).2]) := by
  refine pgood_of_out 4 (good_of_wp isF12 (Nat.le_refl _) ?_)
  unfold ac12
  have kw : known (AVal.agg w.cells) = some w.cells := rfl
  have lw : w.cells.length = 7 := rfl
  have tw : List.take 7 w.cells = w.cells := rfl
  simp only [go_sem, simprocAttr, Wt.val, kw, lw]
  intro wid hwid
  simp only [go_sem, simprocAttr, lw, tw]
  refine good_imm (map_new_ok g w hw down hd hg) rfl ?_
  unfold mapOf listOf
  by_cases h0 : (costOf g w down).2 = 0
  case neg =>
    rw [if_neg h0, if_neg h0]
    simp only [go_sem, simprocAttr, h0]
    exact out_tup2 out_nils out_sc
  rw [if_pos h0, if_pos h0]
  have hr := cost_right h0
  have hpo := ptsOk_of hr
  have hst := start_valid hr
  have hxok : (cxOf g w down).Ok := ⟨hpo⟩
  have hxm : mapV g w.pts (goneAll g w down) (costOf g w down).1 = (cxOf g w down).map := rfl
  have hxg : (cxOf g w down).goal = w.goal := rfl
  have hgl : w.goal.val = .agg [.sc (.int .i64 w.goal.at_), .sc (.int .i64 w.goal.n)] := rfl
  rw [hxm]
  have hst' : VSt (cxOf g w down).g w.start := hst
  rw [← hxg] at hgl
  have kmx : known (cxOf g w down).map = some [(cxOf g w down).map] := rfl
  have eg : w.goal.val = (cxOf g w down).goal.val := rfl
  generalize hx : cxOf g w down = x at *
  simp only [go_sem, simprocAttr, lw, tw]
  refine good_imm (goal_ok w hw) rfl ?_
  rw [eg]
  have kg : known x.goal.val = some x.goal.row := rfl
  have lg : x.goal.row.length = 2 := rfl
  simp only [go_sem, simprocAttr]
  intro mid hmid
  have rw1 := fun o => (rowAt_fresh (o := o) hmid (j := wid) (ver := 0) (by rw [rowAt_self]; rfl)).trans (rowAt_self (σ := Store.empty) (id := wid) (v := 0) (fz := false) (sz := 7) (xs := [w.cells]))
  simp only [go_sem, simprocAttr, kmx, kg, lg]
  intro xid hxid
  have hxm2 : ∀ (σ : Store), σ.get xid = some (.row 0 false 4 [[x.map, .sc (.int .i64 x.goal.at_), .sc (.int .i64 x.goal.n), .map mid]]) → σ.get mid = some (.mp []) → SearchAt σ x xid mid := fun σ h1 h2 => ⟨h1, [], _, h2, mapOf_nil, fun s v hv => by cases hv⟩
  have nwm : wid ≠ mid := fun e => by rw [← e] at hmid; simp at hmid
  have nmx : mid ≠ xid := fun e => by rw [← e] at hxid; simp at hxid
  have nwx : wid ≠ xid := fun e => by rw [← e, Store.get_set_ne _ _ nwm] at hxid; simp at hxid
  have S0 : ∀ o, o = .row 0 false 4 [[x.map, .sc (.int .i64 x.goal.at_), .sc (.int .i64 x.goal.n), .map mid]] → SearchAt (((Store.empty.set wid (.row 0 false 7 [w.cells])).set mid (.mp [])).set xid o) x xid mid := fun o ho => by
    subst ho
    exact hxm2 _ (Store.get_set_self _ _ _) (by rw [Store.get_set_ne _ _ nmx]; simp)
  have W0 : ∀ o, (((Store.empty.set wid (.row 0 false 7 [w.cells])).set mid (.mp [])).set xid o).get wid = some (.row 0 false 7 [w.cells]) := fun o => by rw [Store.get_set_ne _ _ nwx, Store.get_set_ne _ _ nwm]; simp
  have S1 := S0 _ rfl
  have W1 := W0 (.row 0 false 4 [[x.map, .sc (.int .i64 x.goal.at_), .sc (.int .i64 x.goal.n), .map mid]])
  have eobj : ([x.map] ++ x.goal.row ++ [AVal.map mid]) = [x.map, .sc (.int .i64 x.goal.at_), .sc (.int .i64 x.goal.n), .map mid] := rfl
  simp only [go_sem, simprocAttr, St.row] at *
  generalize (((Store.empty.set wid (.row 0 false 7 [w.cells])).set mid (.mp [])).set xid (.row 0 false 4 [[x.map, .sc (.int .i64 x.goal.at_), .sc (.int .i64 x.goal.n), .map mid]])) = σ1 at *
  have rw2 := rowAt_get W1
  simp only [go_sem, simprocAttr, rw2, lw, tw]
  refine good_imm (start_ok w hw) rfl ?_
  have ksv : ∀ s : St, known s.val = some [.sc (.int .i64 s.at_), .sc (.int .i64 s.n)] := fun _ => rfl
  simp only [go_sem, simprocAttr]
  intro ab hab
  have nab : ∀ j, (σ1.get j).isSome = true → j ≠ ab := fun j hj e => by rw [e, hab] at hj; cases hj
  have ax1 : (σ1.get xid).isSome = true := by rw [S1.obj]; rfl
  have am1 : (σ1.get mid).isSome = true := by obtain ⟨es, f, q1, _⟩ := S1.mp; rw [q1]; rfl
  have S2 : ∀ o, SearchAt (σ1.set ab o) x xid mid := fun o => S1.keep (get_fresh hab ax1) (get_fresh hab am1)
  have hma : mid ≠ ab := nab mid am1
  simp only [go_sem, simprocAttr, ksv]
  have S3 := S2 (.row 0 false 2 [w.start.row])
  have hab1 : (σ1.set ab (.row 0 false 2 [w.start.row])).get ab = some (.row 0 false 2 [w.start.row]) := Store.get_set_self _ _ _
  have esr : [AVal.sc (.int .i64 w.start.at_), .sc (.int .i64 w.start.n)] = w.start.row := rfl
  rw [esr]
  generalize σ1.set ab (.row 0 false 2 [w.start.row]) = σ2 at *
  have rab := rowAt_get hab1
  have lsr : ∀ s : St, s.row.length = 2 := fun _ => rfl
  have tsr : ∀ s : St, List.take 2 s.row = s.row := fun _ => rfl
  have kk : ∀ s : St, AVal.agg s.row = s.val := fun _ => rfl
  have hcd : (if (0 : Int) < (if (10 : Int) < d then 10 else d) then (if (10 : Int) < d then 10 else d) else 0) = (((cutD d).toNat : Nat) : Int) := by
    have := cutD_rng d
    have e : cutD d = (if (0 : Int) < (if (10 : Int) < d then 10 else d) then (if (10 : Int) < d then 10 else d) else 0) := rfl
    rw [← e]
    omega
  have hcd10 : (cutD d).toNat ≤ 10 := by have := cutD_rng d; omega
  simp only [go_sem, simprocAttr, rab, lsr, tsr, kk, gt_iff_lt, hcd]
  have al1 : Alive σ2 [ab] := alive_cons hab1 alive_nil
  refine (rounds_ok x hxok w.start hst' (cutD d).toNat (by omega) S3 al1 (by simpa using hma)).mono fun v σ3 hv => ?_
  obtain ⟨rfl, S4, e4⟩ := hv
  cases hR : x.roundsF (cutD d).toNat [w.start] [[w.start]] [w.start] with
  | none =>
    simp only [go_sem, simprocAttr, roundsV]
    exact out_tup2 out_nils out_sc
  | some R =>
  obtain ⟨hR1, hR2, hR3⟩ := roundsF_spec hxok _ _ _ _ R hR ⟨[], ⟨rfl, by simp, by simpa using hst'⟩⟩ (by simpa using hst')
  simp only [List.length_cons, List.length_nil] at hR1 hR2
  have hab4 : σ3.get ab = some (.row 0 false 2 [w.start.row]) := (e4 ab (by simp)).trans hab1
  have al4 : Alive σ3 [ab] := alive_cons hab4 alive_nil
  simp only [go_sem, simprocAttr, roundsV]
  refine (left_ok x hxok R (by omega) (by omega) (fun r hr => ⟨by have := (hR3 r hr).1; omega, (hR3 r hr).2⟩) S4 al4 (by simpa using hma)).mono fun v σ4 hv => ?_
  obtain ⟨oid, ids, rfl, L5⟩ := hv
  have hab5 : σ4.get ab = some (.row 0 false 2 [w.start.row]) := (L5.same ab (by simp)).trans hab4
  have hlen := x.leftL_len R
  have q1 : (1 : Int) ≤ (R.length : Int) := by omega
  have q01 : (0 : Int) ≤ 1 := by omega
  have qt : Int.toNat 1 = 1 := rfl
  have aid : ∀ id ∈ ids, (σ4.get id).isSome = true := fun id hid => by obtain ⟨es, q1⟩ := L5.isMap hid; rw [q1]; rfl
  have P0 : PAt σ4 x xid mid oid ab ids (x.leftL R) w.start .nils [] := by
    refine ⟨⟨L5.S, L5.obj, L5.sets, L5.len, L5.nd, fun id hid => ⟨by simp, (L5.nt id hid).2⟩, by simp, by simp⟩, hab5, acc_nils ?_⟩
    refine alive_cons hab5 (alive_cons L5.obj (alive_cons L5.S.obj ?_))
    obtain ⟨es, f, q1, _⟩ := L5.S.mp
    exact alive_cons q1 aid
  have hao : ab ≠ oid := fun e => by have := L5.ot; rw [← e] at this; simp at this
  have hai : ∀ id ∈ ids, id ≠ ab := fun id hid e => by have := (L5.nt id hid).1; rw [e] at this; simp at this
  have hmo : mid ≠ oid := fun e => by
    obtain ⟨es, f, q1, _⟩ := L5.S.mp
    rw [e, L5.obj] at q1
    cases q1
  clear L5 hab5 aid S4 e4 hab4 al4 al1 S3 rab hab1 hcd S2 ax1 am1 nab hab S1 W1 rw2
  generalize hLS : x.leftL R = LS at *
  have hql : List.length LS = R.length := hlen
  simp only [go_sem, simprocAttr, q1, q01, qt, Int.le_refl]
  rw [← hql]
  refine loop_rule (OPick x xid mid oid ab ids LS (x.pick (LS.drop 1) w.start)) LS.length ⟨0, w.start, .nils, [], by omega, rfl, rfl, P0, hst', by simp, rfl⟩ ?_
  clear P0
  rintro m fr σ ⟨i, s, v, out, h1, rfl, rfl, h2, h3, h4, h5⟩
  have hwi : IntKind.i64.wrap ((i : Int) + 1) = ((i + 1 : Nat) : Int) := by rw [wrap_id (by omega) (by omega)]; rfl
  have qi : (0 : Int) ≤ (i : Int) := by omega
  simp only [go_sem, simprocAttr]
  refine .intro (fun hi => ?_) (fun hi => ?_)
  · have hil : i + 1 < ids.length := by rw [h2.L.len]; omega
    have hids : ids[i + 1]? = some ids[i + 1] := List.getElem?_eq_getElem hil
    have hls : LS[i + 1]? = some LS[i + 1] := List.getElem?_eq_getElem (by omega)
    have hdr := drop_of_get hls
    generalize ids[i + 1]'hil = idm at *
    generalize LS[i + 1]'(by omega) = L at *
    have hcell : (lCells 0 ids)[1 + i]? = some [.map idm] := by
      unfold lCells mRow
      rw [List.replicate_zero, List.nil_append, List.getElem?_map, Nat.add_comm 1 i, hids]
      rfl
    have ro := rowAt_get h2.L.obj
    have rab := rowAt_get h2.ab_
    have hidm := List.mem_of_getElem? hids
    simp only [go_sem, simprocAttr, qi, hi, ro, hcell, rab, lsr, tsr, kk]
    have hal : Alive σ (ab :: oid :: ids ++ objs v) := by
      have a1 := h2.alive
      have a2 := h2.acc.objs_alive
      intro j hj
      simp only [List.cons_append, List.mem_cons, List.mem_append] at hj
      rcases hj with rfl | rfl | hj | hj
      · exact a1 _ (by simp)
      · exact a1 _ (by simp)
      · exact a1 _ (by simp [hj])
      · exact a2 _ hj
    have hnm : mid ∉ ab :: oid :: ids ++ objs v := by
      intro q
      simp only [List.cons_append, List.mem_cons, List.mem_append] at q
      rcases q with q | q | q | q
      · exact hma q
      · exact hmo q
      · exact (h2.L.nt mid q).2 rfl
      · exact h2.acc.objs_not mid q (by simp)
    refine (from_search_ok x hxok s (by have := h3.2; omega) h2.L.S hal hnm).mono fun rv σ5 hv => ?_
    obtain ⟨rfl, c1, c2⟩ := hv
    have h6 : PAt σ5 x xid mid oid ab ids LS s v out := by
      have t1 := h2.L.keep (σ' := σ5) c1 (fun j hj => c2 j (by
        rcases hj with rfl | hj | hj
        · simp
        · simp [hj]
        · cases hj))
      have hab6 := (c2 ab (by simp)).trans h2.ab_
      refine ⟨⟨t1.S, t1.obj, t1.sets, t1.len, t1.nd, t1.nt, t1.ot, fun _ _ => rfl⟩, hab6, h2.acc.keep (fun j hj => c2 j (by simp [hj])) ?_ h2.acc.objs_not⟩
      refine alive_cons hab6 (alive_cons t1.obj (alive_cons t1.S.obj ?_))
      obtain ⟨es, f, q1, _⟩ := t1.S.mp
      exact alive_cons q1 (fun id hid => by obtain ⟨es, q1⟩ := t1.isMap hid; rw [q1]; rfl)
    have hll : (x.leads s).length ≤ 10000 := by
      unfold Cx.leads
      rw [List.length_append]
      have := x.leadsN_len s false x.g.n.toNat
      have := x.leadsN_len s true (2 * x.g.ls.length)
      have := hxok.pts.ok.1
      have := hxok.pts.ok.2.2.1
      omega
    have hlv : ∀ q ∈ x.leads s, VSt x.g q.to := fun q hq => (lead_valid hxok hq).1
    have epick : x.pick (LS.drop (i + 1)) s = match (x.leads s).find? (fun l => decide (l.to ∈ L)) with
      | some l => l.s :: x.pick (LS.drop (i + 2)) l.to
      | none => x.pick (LS.drop (i + 2)) s := by rw [hdr]; rfl
    rw [epick] at h5
    clear h2 c1 c2 hal hnm epick ro rab
    generalize hld : x.leads s = ld at *
    simp only [go_sem, simprocAttr, ldRows_len]
    refine loop_rule (IPick x xid mid oid ab ids LS i idm L s v out ld) ld.length ⟨0, by omega, rfl, rfl, h6, rfl⟩ ?_
    clear h6
    rintro m fr σ6 ⟨q, j1, rfl, rfl, j2, j3⟩
    have hwq : IntKind.i64.wrap ((q : Int) + 1) = ((q + 1 : Nat) : Int) := by rw [wrap_id (by omega) (by omega)]; rfl
    have qq : (0 : Int) ≤ (q : Int) := by omega
    simp only [go_sem, simprocAttr]
    refine .intro (fun hq => ?_) (fun hq => ?_)
    · have hl : ld[q]? = some ld[q] := List.getElem?_eq_getElem (by omega)
      have hdq := drop_of_get hl
      generalize ld[q]'(by omega) = l at *
      have hqr : (ldRows ld)[q]? = some l.row := by unfold ldRows; rw [List.getElem?_map, hl]; rfl
      have lq : l.row.length = 4 := rfl
      have tq : List.take 4 l.row = l.row := rfl
      have tq2 : List.take 2 l.row = l.s.row := rfl
      have kq : known (.agg l.row) = some l.row := rfl
      have dq : List.take 2 (List.drop 2 l.row) = l.to.row := rfl
      have hlt := hlv l (List.mem_of_getElem? hl)
      rw [hdq, List.find?_cons] at j3
      simp only [go_sem, simprocAttr, hqr, qq, lq, tq]
      intro lb hlb
      have j4 := j2.fresh hlb (.row 0 false 4 [l.row])
      have rl : Ab.rowAt (σ6.set lb (.row 0 false 4 [l.row])) lb 0 = some (false, 4, [l.row]) := rowAt_self
      have nlb : ab ≠ lb := fun e => by rw [← e, j2.ab_] at hlb; cases hlb
      have glb : (σ6.set lb (.row 0 false 4 [l.row])).get lb = some (.row 0 false 4 [l.row]) := Store.get_set_self _ _ _
      have acc1 := j2.acc.fresh hlb (.row 0 false 4 [l.row])
      simp only [go_sem, simprocAttr, kq, lq, tq]
      clear j2 hlb
      generalize σ6.set lb (.row 0 false 4 [l.row]) = τ at *
      have M1 : SetAt τ idm L := j4.L.sets (i + 1) idm L hids hls
      have hlk := M1.look l.to
      simp only [go_sem, simprocAttr, rl, lq, dq, kk, hlk]
      by_cases hin : l.to ∈ L
      · rw [decide_eq_true hin] at j3
        simp only at j3
        rw [j3] at h5
        simp only at h5
        have ksg : known (.agg l.s.row) = some l.s.row := rfl
        have lsg : l.s.row.length = 2 := rfl
        simp only [go_sem, simprocAttr, hin, rl, lq, tq2, ksg, lsg]
        intro nb hnb
        have acc2 := acc1.fresh hnb (.row 0 false 2 [l.s.row])
        simp only [go_sem, simprocAttr]
        refine acc_append acc2 (by simp only [segs_len, List.length_cons, List.length_nil]; omega) (by simp only [segs_len, List.length_cons, List.length_nil]; omega) fun v' σ7 p1 p2 => ?_
        have alv := j4.alive
        have same7 : ∀ j ∈ ab :: oid :: xid :: mid :: ids, σ7.get j = τ.get j := fun j hj => by
          rw [p2 j (by simp only [List.mem_cons] at hj ⊢; exact .inr (.inr hj)), get_fresh hnb (alv j hj)]
        have glb7 : σ7.get lb = some (.row 0 false 4 [l.row]) := by
          rw [p2 lb (by simp), get_fresh hnb (by rw [glb]; rfl), glb]
        have rl7 := rowAt_get glb7
        have rab7 := rowAt_get ((same7 ab (by simp)).trans j4.ab_)
        have kst : known l.to.val = some l.to.row := rfl
        have dst : List.drop 2 s.row = [] := rfl
        simp only [go_sem, simprocAttr, Kblock_ne (show ((2 : Nat) == 3) = false from rfl), rl7, rab7, lq, dq, kk, kst, lsr, dst, hwi]
        have t1 := j4.L.keep (σ' := σ7) (j4.L.S.keep (same7 xid (by simp)) (same7 mid (by simp))) (fun j hj => same7 j (by
          rcases hj with rfl | hj | hj
          · simp
          · simp [hj]
          · cases hj))
        have nabx : xid ≠ ab := fun e => by
          have q1 := j4.L.S.obj
          rw [e, j4.ab_] at q1
          cases q1
        have t2 := t1.keep (σ' := σ7.set ab (.row 0 false 2 [l.to.row])) (t1.S.keep (Store.get_set_ne _ _ nabx) (Store.get_set_ne _ _ hma)) (fun j hj => Store.get_set_ne _ _ (by
          rcases hj with rfl | hj | hj
          · exact fun e => hao e.symm
          · exact hai j hj
          · cases hj))
        refine back_of (LS.length - (i + 1)) (by omega) ⟨i + 1, l.to, v', out ++ [l.s], by omega, rfl, rfl, ⟨⟨t2.S, t2.obj, t2.sets, t2.len, t2.nd, t2.nt, t2.ot, fun _ _ => rfl⟩, Store.get_set_self _ _ _, ?_⟩, hlt, by rw [List.length_append]; simp; omega, by rw [List.append_assoc]; exact h5⟩
        rw [segs_app]
        exact (p1.less (o2 := ab :: oid :: xid :: mid :: ids) (by intro z hz; simp only [List.mem_cons] at hz ⊢; exact .inr (.inr hz))).other (by simp) _
      · rw [decide_eq_false hin] at j3
        simp only at j3
        simp only [go_sem, simprocAttr, hin, hwq]
        exact back_of _ (by omega) ⟨q + 1, by omega, rfl, rfl, j4, j3⟩
    · have eq : ld.drop q = [] := List.drop_eq_nil_of_le (by omega)
      rw [eq] at j3
      have j3' : ld.find? (fun l => decide (l.to ∈ L)) = none := j3
      rw [j3'] at h5
      simp only [go_sem, simprocAttr, hwi]
      exact back_of (LS.length - (i + 1)) (by omega) ⟨i + 1, s, v, out, by omega, rfl, rfl, j2, h3, by omega, h5⟩
  · have ei : LS.drop (i + 1) = [] := List.drop_eq_nil_of_le (by omega)
    rw [ei] at h5
    have h5' : out = x.pick (LS.drop 1) w.start := by rw [← h5]; simp [Cx.pick]
    rw [← h5']
    simp only [go_sem, simprocAttr]
    exact out_tup2 (m := 3) (acc_out_imm (m := 1) h2.acc (segs_imm out 1)) out_sc
end Go.Proofs

set_option linter.unusedSimpArgs false
set_option linter.unusedVariables false
namespace Go.Proofs
open Go.Ab

theorem copy_graph_ok (g : Gr) (hg : g.ls.length ≤ 1000000) : PGood Try.prog 40 [g.val] g.val := by
  refine pgood_of_out 3 (good_of_wp isF40 (Nat.le_refl _) ?_)
  unfold ac40
  have hlen : (g.ls.map Lk.row).length ≤ 1000000 := by simpa using hg
  simp only [go_sem, simprocAttr, Gr.val]
  intro id hid
  simp only [go_sem, simprocAttr]
  intro cid hcid
  have hne : id ≠ cid := fun e => by subst e; simp at hcid
  have f1 := fun o => rowAt_fresh (o := o) hcid (j := id) (ver := 0) (by rw [rowAt_self]; rfl)
  have hall := links_len g.ls
  simp only [go_sem, simprocAttr, f1, hall]
  have al : Alive ((Store.empty.set id (.row 0 false 2 [[.sc (.int .i64 g.n), .lst (g.ls.map Lk.row)]])).set cid (.row 0 false 2 [[.sc (.int .i64 0), .nils]])) [id, cid] := by
    refine alive_cons (j := id) (o := .row 0 false 2 [[.sc (.int .i64 g.n), .lst (g.ls.map Lk.row)]]) ?_ (alive_cons (Store.get_set_self _ _ _) alive_nil)
    rw [Store.get_set_ne _ _ hne]; simp
  refine acc_append (acc_nils al) (by simp only [List.length_nil]; omega) (by simp only [List.length_nil]; omega) fun v σ2 u1 u2 => ?_
  have g1 : σ2.get id = some (.row 0 false 2 [[.sc (.int .i64 g.n), .lst (g.ls.map Lk.row)]]) := by rw [u2 id (by simp), Store.get_set_ne _ _ hne]; simp
  have g2 : σ2.get cid = some (.row 0 false 2 [[.sc (.int .i64 0), .nils]]) := by rw [u2 cid (by simp)]; simp
  have r1 := rowAt_get g1
  have kn := u1.known
  have r2 : ∀ o, Ab.rowAt (σ2.set id o) cid 0 = some (false, 2, [[.sc (.int .i64 0), .nils]]) := fun o => by rw [rowAt_ne hne.symm]; exact rowAt_get g2
  simp only [go_sem, simprocAttr, r1, kn, r2]
  refine out_agg (m := 2) ⟨out_sc, ?_, trivial⟩
  have u3 : Acc σ2 4 v (g.ls.map Lk.row) [id, cid] := by simpa using u1
  exact acc_out ((u3.other (by simp) _).other (id := cid) (by simp) _) (links_sc _)

def refRows (g : Gr) (k : Nat) : List (List AVal) := (List.range k).map fun (t : Nat) => [.lst (ints (refFrom g [] t))]
def Gr.rtab (g : Gr) : AVal := .iptr [.sc (.int .i64 g.n), .lst (g.ls.map Lk.row), .lst (refRows g g.n.toNat)] 0
def rnewOf (g : Gr) : AVal := if g.check.2 = 0 then .tup [g.rtab, .i 0] else .tup [.nilp, .i g.check.2]
theorem refRows_succ (g : Gr) (k : Nat) : refRows g (k + 1) = refRows g k ++ [[.lst (ints (refFrom g [] k))]] := by simp [refRows, List.range_succ]
theorem refRows_len (g : Gr) (k : Nat) : (refRows g k).length = k := by simp [refRows]

theorem rnew_ok (g : Gr) : PGood Try.prog 20 [g.val] (rnewOf g) := by
  refine pgood_of_out 5 (good_of_wp isF20 (Nat.le_refl _) ?_)
  unfold ac20
  simp only [go_sem, simprocAttr, Gr.val]
  intro gid hgid
  simp only [go_sem, simprocAttr]
  refine good_imm (rcheck_ok g) rfl ?_
  simp only [go_sem, simprocAttr]
  by_cases h0 : g.check.2 = 0
  · have hok : g.Ok := g.check_ok.1 h0
    obtain ⟨hl, hn1, hn2, _⟩ := id hok
    simp only [go_sem, simprocAttr, h0]
    refine good_imm (copy_graph_ok g (by omega)) rfl ?_
    simp only [go_sem, simprocAttr, Gr.val]
    intro tid htid
    have f1 := fun o => rowAt_fresh (o := o) htid (j := gid) (ver := 0) (by rw [rowAt_self]; rfl)
    have hne : gid ≠ tid := fun e => by subst e; simp at htid
    simp only [go_sem, simprocAttr, f1]
    refine loop_rule (fun m fr σ => ∃ (i : Nat) (v1 : AVal), i ≤ g.n.toNat ∧ m = g.n.toNat - i ∧ fr = [(1, .ptr gid 0 0 0), (6, .ptr tid 0 0 0), (7, .i i)] ∧
      σ.get gid = some (.row 0 false 2 [[.sc (.int .i64 g.n), .lst (g.ls.map Lk.row)]]) ∧ σ.get tid = some (.row 0 false 3 [[.sc (.int .i64 g.n), .lst (g.ls.map Lk.row), v1]]) ∧
      Acc σ 1 v1 (refRows g i) [tid, gid]) g.n.toNat ⟨0, .nils, by omega, rfl, rfl, ?_, by simp, acc_nils ?_⟩ ?_
    · rw [Store.get_set_ne _ _ hne]; simp
    · refine alive_cons (Store.get_set_self _ _ _) (alive_cons (j := gid) (o := .row 0 false 2 [[.sc (.int .i64 g.n), .lst (g.ls.map Lk.row)]]) ?_ alive_nil)
      rw [Store.get_set_ne _ _ hne]; simp
    · rintro m fr σ ⟨i, v1, h1, rfl, rfl, h3, h4, h5⟩
      have r1 := rowAt_get h3
      have r2 := rowAt_get h4
      simp only [go_sem, simprocAttr, r1]
      refine .intro (fun h => ?_) (fun h => ?_)
      · simp only [go_sem, simprocAttr]
        unfold op20_26
        simp only [go_sem, simprocAttr, r1, r2]
        refine goodD_outi (outL3 (out_imm rfl) out_nils out_sc) rfl (ref_from_ok g [] i) ?_
        simp only [go_sem, simprocAttr]
        intro a ha
        simp only [go_sem, simprocAttr, resD_append]
        have c := h5.fresh ha (.row 0 false 1 [[.lst (ints (refFrom g [] i))]])
        refine acc_append c (by simp only [refRows_len, List.length_cons, List.length_nil]; omega) (by simp only [refRows_len, List.length_cons, List.length_nil]; omega) fun w σ2 u1 u2 => ?_
        have g1 : σ2.get gid = some (.row 0 false 2 [[.sc (.int .i64 g.n), .lst (g.ls.map Lk.row)]]) := by rw [u2 gid (by simp), get_fresh ha (h5.1 gid (by simp)), h3]
        have g2 : σ2.get tid = some (.row 0 false 3 [[.sc (.int .i64 g.n), .lst (g.ls.map Lk.row), v1]]) := by rw [u2 tid (by simp), get_fresh ha (h5.1 tid (by simp)), h4]
        have s2 := rowAt_get g2
        have kn := u1.known
        have hw : IntKind.i64.wrap ((i : Int) + 1) = ((i + 1 : Nat) : Int) := by rw [wrap_id (by omega) (by omega)]; rfl
        simp only [go_sem, simprocAttr, s2, kn, hw]
        have hn : gid ≠ tid := hne
        refine back_of _ ?_ ⟨i + 1, w, by omega, rfl, rfl, ?_, by simp, ?_⟩
        · omega
        · rw [Store.get_set_ne _ _ hn, g1]
        · rw [refRows_succ]
          exact (u1.less fun x hx => List.mem_cons_of_mem _ hx).other (by simp) _
      · simp only [go_sem, simprocAttr]
        have ei : i = g.n.toNat := by omega
        subst ei
        have e : rnewOf g = .tup [g.rtab, .i 0] := if_pos h0
        rw [e]
        have i1 : ∀ y ∈ refRows g g.n.toNat, ∀ c ∈ y, immA 2 c = true := fun y hy c hc => by
          simp only [refRows, List.mem_map] at hy
          obtain ⟨k, _, rfl⟩ := hy
          simp at hc
          subst hc; rfl
        refine out_tup2 (m := 4) (out_ptr (m := 3) r2 rfl ⟨out_sc, out_imm rfl, acc_out_imm h5 i1, trivial⟩) out_sc
  · simp only [go_sem, simprocAttr, h0]
    unfold rnewOf
    rw [if_neg h0]
    exact out_imm rfl

/-- The program's tables and the document's own. -/
def tabsOf (g : Gr) : AVal := if g.check.2 = 0 then .tup [g.tab, g.rtab, .b true] else .tup [.nilp, .nilp, .b false]
theorem tables_ok (g : Gr) : PGood Try.prog 11 [g.val] (tabsOf g) := by
  refine pgood_of_out 4 (good_of_wp isF11 (Nat.le_refl _) ?_)
  unfold ac11
  simp only [go_sem, simprocAttr, Gr.val]
  intro gid hgid
  simp only [go_sem, simprocAttr]
  by_cases h0 : g.check.2 = 0
  · have e1 := tnew_ok g
    have e2 := rnew_ok g
    unfold newOf at e1
    unfold rnewOf at e2
    rw [if_pos h0] at e1 e2
    refine good_imm e1 rfl ?_
    simp only [go_sem, simprocAttr]
    refine good_imm e2 rfl ?_
    simp only [go_sem, simprocAttr, Gr.tab]
    unfold tabsOf
    rw [if_pos h0]
    exact out_imm rfl
  · have e1 := tnew_ok g
    have e2 := rnew_ok g
    unfold newOf at e1
    unfold rnewOf at e2
    rw [if_neg h0] at e1 e2
    refine good_imm e1 rfl ?_
    simp only [go_sem, simprocAttr]
    refine good_imm e2 rfl ?_
    simp only [go_sem, simprocAttr, h0]
    unfold tabsOf
    rw [if_neg h0]
    exact out_imm rfl
end Go.Proofs

set_option linter.unusedSimpArgs false
set_option linter.unusedVariables false
namespace Go.Proofs
open Go.Ab

theorem good_out_any {P : Program} {σ : Store} {f : FuncId} {args xs : List AVal} {r : AVal} {Q : AVal → Store → Prop} (m : Nat) (h : OutL m σ args xs) (hp : PGood P f xs r) (hQ : ∀ τ, (∃ p, τ = σ.freeze p) → Q r τ) : Ab.Good P f args σ Q := by
  obtain ⟨ys, h1, h2, h3⟩ := outL_spec h
  refine good_of_pgood m h1 (hp.sub h2 h3) (hQ _ ?_)
  unfold after
  split
  · exact ⟨fun _ => false, Store.ext fun i => by
      rw [Store.get_freeze]
      cases hg : σ.get i with
      | none => rfl
      | some o => cases o <;> simp⟩
  · exact ⟨_, rfl⟩

def noA : Int → Pk → Bool × Pk := fun _ s => (false, s)
theorem isUp_nil (e : Int) : isUp [] e = true := by simp [isUp]
theorem noA_ok {w : Pw} (h : w.down = []) : AroundOk w noA := fun σ pid others s x r e _ _ _ hu => by
  rw [h, isUp_nil] at hu
  cases hu
def muUp (s : Pk) : Nat := (256 - s.es.length) + s.l.length
def JUp (s : Pk) : Prop := s.fin = 0 ∧ Bd s
theorem jUp {w : Pw} (h : w.down = []) : ∀ s, JUp s → s.fin = 0 ∧ Bd s ∧ (stepOf w noA s).2.fin = 0 ∧ ((stepOf w noA s).1 = 0 → JUp (stepOf w noA s).2 ∧ muUp (stepOf w noA s).2 < muUp s) := by
  rintro s ⟨h1, h2⟩
  have h2e := h2.es
  have h2l := h2.l
  refine ⟨h1, h2, ?_⟩
  unfold stepOf
  rw [h]
  cases hl : s.l with
  | nil => exact ⟨h1, fun e => by cases e⟩
  | cons x r =>
    simp only
    split
    · exact ⟨h1, fun _ => ⟨⟨h1, ⟨h2e, by rw [hl] at h2l; simp only [List.length_cons] at h2l ⊢; omega, h2.ar, h2.most⟩⟩, by simp only [muUp, hl, List.length_cons]; omega⟩⟩
    · split
      · exact ⟨h1, fun e => by cases e⟩
      · rename_i h3
        split
        · exact ⟨h1, fun e => by cases e⟩
        · split
          · exact ⟨h1, fun e => by cases e⟩
          · rw [if_pos (isUp_nil _)]
            refine ⟨h1, fun _ => ⟨⟨h1, ?_⟩, ?_⟩⟩
            · rw [hl] at h2l
              refine ⟨by simp only [crossed, List.length_append, List.length_cons, List.length_nil]; omega, ?_, h2.ar, h2.most⟩
              simp only [crossed, List.length_cons] at h2l ⊢
              split
              · omega
              · simp only [List.length_cons]; omega
            · simp only [muUp, crossed, hl, List.length_append, List.length_cons, List.length_nil]
              split
              · omega
              · simp only [List.length_cons]; omega

/-- What a packet does where no link is down. -/
def upRun (g : Gr) (from_ : Int) (l : List Sg) (hash : Int) (strict : Bool) (d0 : Int) : Pk := runOf ⟨g, hash, [], strict, cutD d0⟩ noA (muUp (pk0 l from_) + 1) (pk0 l from_)
theorem up_run_ok (g : Gr) (hok : g.Ok) (from_ : Int) (l : List Sg) (hash : Int) (strict : Bool) (d0 : Int) (hl : l.length < 1000000) (hf : 0 ≤ from_ ∧ from_ < g.n) :
    PGood Try.prog 14 [g.tab, .i from_, .lst (segs l), .i hash, .lst (bools []), .b strict, .i d0] (walkVal (upRun g from_ l hash strict d0)) :=
  run_ok ⟨g, hash, [], strict, cutD d0⟩ hok noA (noA_ok rfl) from_ l d0 rfl hl JUp muUp ⟨rfl, by simp [pk0], by simp [pk0]; omega, by simp [pk0], by simp [pk0]; omega⟩ (jUp rfl) hf

theorem segs_sc (l : List Sg) : ∀ y ∈ segs l, ∀ c ∈ y, ∃ v, c = .sc v := by
  intro y hy c hc
  simp only [segs, List.mem_map] at hy
  obtain ⟨k, _, rfl⟩ := hy
  simp only [Sg.row, List.mem_cons, List.mem_nil_iff, or_false] at hc
  rcases hc with rfl | rfl <;> exact ⟨_, rfl⟩

def xG : Gr := ⟨2, [⟨0, 1, 7, 0⟩]⟩
theorem xG_ok : xG.check.2 = 0 := by decide +kernel
theorem xr1 : upRun xG 0 [] 5 false 3 = ⟨[], [], 0, 1, 0, 0⟩ := by
  have : (upRun xG 0 [] 5 false 3).l.length = 0 ∧ (upRun xG 0 [] 5 false 3).es = [] ∧ (upRun xG 0 [] 5 false 3).at_ = 0 ∧ (upRun xG 0 [] 5 false 3).fin = 1 ∧ (upRun xG 0 [] 5 false 3).ar = 0 ∧ (upRun xG 0 [] 5 false 3).most = 0 := by decide +kernel
  obtain ⟨h1, h2, h3, h4, h5, h6⟩ := this
  generalize upRun xG 0 [] 5 false 3 = p at *
  cases p
  simp at h1 h2 h3 h4 h5 h6 ⊢
  exact ⟨h1, h2, h3, h4, h5, h6⟩
theorem xr2 : (upRun xG 0 [⟨false, 1⟩] 5 false 3).fin = 1 ∧ (upRun xG 0 [⟨false, 1⟩] 5 false 3).at_ = 1 ∧ (upRun xG 0 [⟨false, 1⟩] 5 false 3).es.length = 1 := by decide +kernel

theorem alive_ok : PGood Try.prog 8 [] (.b true) := by
  refine pgood_of_out 1 (good_of_wp isF8 (Nat.le_refl _) ?_)
  unfold ac8
  simp only [go_sem, simprocAttr]
  intro id hid
  simp only [go_sem, simprocAttr]
  have r1 : Ab.rowAt (Store.empty.set id (.row 0 false 4 [[.sc (.int .i64 0), .sc (.int .i64 1), .sc (.int .i64 7), .sc (.int .i64 0)]])) id 0 = some (false, 4, [[.sc (.int .i64 0), .sc (.int .i64 1), .sc (.int .i64 7), .sc (.int .i64 0)]]) := rowAt_self
  have t1 := tables_ok xG
  have hx : tabsOf xG = .tup [xG.tab, xG.rtab, .b true] := if_pos xG_ok
  rw [hx] at t1
  refine good_out_any 4 (outL1 (x := xG.val) (out_agg (m := 3) (cs := [.i 2, .sl id 0 0 1 4]) (ds := [.i 2, .lst (xG.ls.map Lk.row)]) ⟨out_sc, out_sl r1 (by simp) rfl (links_sc [⟨0, 1, 7, 0⟩]), trivial⟩)) t1 ?_
  rintro τ -
  simp only [go_sem, simprocAttr]
  have hok : xG.Ok := xG.check_ok.1 xG_ok
  have w1 := up_run_ok xG hok 0 [] 5 false 3 (by simp) (by decide)
  rw [xr1] at w1
  refine good_outi (xs := [xG.tab, .i 0, .lst (segs []), .i 5, .lst (bools []), .b false, .i 3]) ⟨out_imm rfl, out_sc, out_nils, out_sc, out_nils, out_sc, out_sc, trivial⟩ rfl w1 ?_
  simp only [go_sem, simprocAttr, walkVal]
  intro a ha
  simp only [go_sem, simprocAttr]
  intro b hb
  simp only [go_sem, simprocAttr]
  have w2 := up_run_ok xG hok 0 [⟨false, 1⟩] 5 false 3 (by simp) (by decide)
  obtain ⟨x1, x2, x3⟩ := xr2
  generalize upRun xG 0 [⟨false, 1⟩] 5 false 3 = q at *
  have rb : Ab.rowAt ((τ.set a (.row 0 false 5 [[.lst (ints []), .sc (.int .i64 0), .sc (.int .i64 1), .sc (.int .i64 0), .sc (.int .i64 0)]])).set b (.row 0 false 2 [[.sc (.bool false), .sc (.int .i64 1)]])) b 0 = some (false, 2, [[.sc (.bool false), .sc (.int .i64 1)]]) := rowAt_self
  have hab : a ≠ b := fun e => by subst e; simp at hb
  have ra : Ab.rowAt ((τ.set a (.row 0 false 5 [[.lst (ints []), .sc (.int .i64 0), .sc (.int .i64 1), .sc (.int .i64 0), .sc (.int .i64 0)]])).set b (.row 0 false 2 [[.sc (.bool false), .sc (.int .i64 1)]])) a 0 = some (false, 5, [[.lst (ints []), .sc (.int .i64 0), .sc (.int .i64 1), .sc (.int .i64 0), .sc (.int .i64 0)]]) := by rw [rowAt_ne hab, rowAt_self]
  refine good_out_any (xs := [xG.tab, .i 0, .lst (segs [⟨false, 1⟩]), .i 5, .lst (bools []), .b false, .i 3]) 4 ⟨out_imm rfl, out_sc, out_sl rb (by simp) rfl (segs_sc [⟨false, 1⟩]), out_sc, out_nils, out_sc, out_sc, trivial⟩ w2 ?_
  rintro υ ⟨p, rfl⟩
  have ra2 := rowAt_freeze (p := p) ra
  generalize ((τ.set a (.row 0 false 5 [[.lst (ints []), .sc (.int .i64 0), .sc (.int .i64 1), .sc (.int .i64 0), .sc (.int .i64 0)]])).set b (.row 0 false 2 [[.sc (.bool false), .sc (.int .i64 1)]])).freeze p = υ at *
  simp only [go_sem, simprocAttr, walkVal]
  intro c hc
  have ra3 := fun o => rowAt_fresh (o := o) hc (j := a) (ver := 0) (by rw [ra2]; rfl)
  simp only [go_sem, simprocAttr, ra3, ra2, x1, x2, ints_len, x3]
  exact out_sc
end Go.Proofs

set_option linter.unusedSimpArgs false
set_option linter.unusedVariables false
namespace Go.Proofs
open Go.Ab

/-! ### repair.Around, slices.Concat, packet.around -/
theorem good_out_fz {P : Program} {σ : Store} {f : FuncId} {args xs : List AVal} {r : AVal} {Q : AVal → Store → Prop} (m : Nat) (h : OutL m σ args xs) (hp : PGood P f xs r) (hQ : ∀ p : Nat → Bool, (∀ id, p id = true → id ∈ reachL m σ args) → Q r (σ.freeze p)) : Ab.Good P f args σ Q := by
  obtain ⟨ys, h1, h2, h3⟩ := outL_spec h
  refine good_of_pgood m h1 (hp.sub h2 h3) ?_
  unfold after
  split
  · have e : σ = σ.freeze (fun _ => false) := Store.ext fun i => by
      rw [Store.get_freeze]
      cases hg : σ.get i with
      | none => rfl
      | some o => cases o <;> simp
    have := hQ (fun _ => false) (fun id h => by cases h)
    rw [← e] at this
    exact this
  · exact hQ _ (fun id h => by simpa using h)

def arWant (g : Gr) (e to : Int) : Wt := ⟨(g.ends e).1, to, 0, [], [], [], []⟩
def oneDown (g : Gr) (e : Int) : List Bool := (List.replicate g.ls.length false).set (e / 2).toNat true
def aroundL (g : Gr) (e to d : Int) : List Sg × Int := if (g.ends e).2.2 = true then listOf g (arWant g e to) (oneDown g e) d else ([], 5)

theorem repair_ok (g : Gr) (hg : g.ls.length ≤ 1000000) (e to d : Int) (he : e < 1000000000000) : PGood Try.prog 71 [g.tab, .i e, .i to, .i d] (.tup [.lst (segs (aroundL g e to d).1), .i (aroundL g e to d).2]) := by
  refine pgood_of_out 4 (good_of_wp isF71 (Nat.le_refl _) ?_)
  unfold ac71
  have htab : g.tab = .iptr [.sc (.int .i64 g.n), .lst (g.ls.map Lk.row), .lst (toRowsT g g.n.toNat), .lst (nextRowsT g g.n.toNat)] 0 := rfl
  simp only [go_sem, simprocAttr, htab]
  rw [← htab]
  refine good_imm (tgraph_ok g hg) rfl ?_
  simp only [go_sem, simprocAttr, Gr.val]
  intro gid hgid
  simp only [go_sem, simprocAttr]
  have eo := ends_ok g e (by omega)
  simp only [Gr.val] at eo
  refine good_imm eo rfl ?_
  unfold aroundL
  cases c1 : (g.ends e).2.2 with
  | false =>
    simp only [go_sem, simprocAttr]
    exact out_tup2 out_nils out_sc
  | true =>
  obtain ⟨e0, e1⟩ := ends_is.1 c1
  have q1 : (0 : Int) ≤ (g.ls.length : Int) := by omega
  have q2 : (g.ls.length : Int) ≤ 9223372036854775807 := by omega
  have q3 : g.ls.length * 1 ≤ 281474976710656 := by omega
  simp only [go_sem, simprocAttr, q1, q2, q3]
  intro did hdid
  have htd : Int.tdiv e 2 = e / 2 := by rw [Int.tdiv_eq_ediv_of_nonneg e0]
  have hwd : IntKind.i64.wrap (e / 2) = e / 2 := wrap_id (by omega) (by omega)
  have qd : (0 : Int) ≤ e / 2 := by omega
  have qd2 : e / 2 < (g.ls.length : Int) := by omega
  have c20 : ¬ ((2 : Int) = 0) := by omega
  have hrep : (List.replicate g.ls.length [AVal.sc (.bool false)])[(e / 2).toNat]? = some [.sc (.bool false)] := by rw [List.getElem?_replicate, if_pos (by omega)]
  have e2 : (List.replicate g.ls.length [AVal.sc (.bool false)]).set (e / 2).toNat [.sc (.bool true)] = bools (oneDown g e) := by unfold oneDown; rw [bools_set, bools_rep]
  have hol : (oneDown g e).length = g.ls.length := by simp [oneDown]
  simp only [go_sem, simprocAttr, htd, hwd, qd, qd2, c20, hrep, e2]
  have hr := rowAt_self (σ := Store.empty.set gid (.row 0 false 2 [[.sc (.int .i64 g.n), .lst (g.ls.map Lk.row)]])) (id := did) (v := 0) (fz := false) (sz := 1) (xs := bools (oneDown g e))
  refine good_out_any (xs := [g.tab, (arWant g e to).val, .lst (bools (oneDown g e)), .i d]) 4 ⟨out_imm rfl, out_agg (m := 3) ⟨out_sc, out_sc, out_sc, out_nils, out_nils, out_nils, out_nils, trivial⟩, out_sl hr (by rw [bools_len, hol]; omega) (by rw [List.drop_zero, List.take_of_length_le (by rw [bools_len, hol]; omega)]) (bools_sc _), out_sc, trivial⟩
    (list_ok g (arWant g e to) ⟨by simp [arWant], by simp [arWant], by simp [arWant], by simp [arWant]⟩ (oneDown g e) (by rw [hol]; omega) hg d) ?_
  rintro τ -
  simp only [go_sem, simprocAttr]
  exact out_imm rfl

theorem grow_ok (n : Nat) (hn : n ≤ 3000000) {σ : Store} {others : List Nat} (hal : Alive σ others) : Ab.Good Try.prog 90 [.nils, .i n] σ (fun v σ' => Acc σ' 2 v [] others ∧ ∀ j ∈ others, σ'.get j = σ.get j) := by
  refine good_of_wp isF90 (Nat.le_refl _) ?_
  unfold ac90
  have q0 : ¬ ((n : Int) < 0) := by omega
  have q1 : IntKind.i64.wrap 0 = 0 := wrap0
  have q2 : IntKind.i64.wrap ((n : Int) - 0) = (n : Int) := by rw [Int.sub_zero]; exact wrap_id (by omega) (by omega)
  have q3 : (0 : Int) - 0 = 0 := rfl
  simp only [go_sem, simprocAttr, q0, q3, q1, q2]
  refine .intro (fun h => ?_) (fun h => ?_)
  · have c1 : (0 : Int) ≤ (n : Int) ∧ (n : Int) ≤ 9223372036854775807 ∧ (n : Int).toNat * 16 ≤ 140737488355328 := ⟨by omega, by omega, by omega⟩
    have c2 : ¬ ((n : Int) = 0) := by omega
    have z0 : (0 : Int) ≤ 0 := Int.le_refl _
    have c3 : n * 16 ≤ 140737488355328 := by omega
    simp only [go_sem, simprocAttr, mkR, c1, c2, z0, c3]
    intro id hid
    have zt : Int.toNat 0 = 0 := rfl
    have zn : (0 : Int) ≤ ((n : Nat) : Int) := by omega
    simp only [go_sem, simprocAttr, zt, zn]
    refine ⟨⟨fun j hj => ?_, .inr ⟨id, 0, 0, _, rfl, rowAt_self, fun q => ?_, by simp, by simp⟩⟩, fun j hj => get_fresh hid (hal j hj)⟩
    · rw [get_fresh hid (hal j hj)]; exact hal j hj
    · have := hal id q
      rw [hid] at this
      cases this
  · simp only [go_sem, simprocAttr]
    exact ⟨acc_nils hal, fun _ _ => trivial⟩

theorem concat_ok (A B : List Sg) (hA : A.length ≤ 1000000) (hB : B.length ≤ 1000000) : PGood Try.prog 73 [.lst [[.lst (segs A)], [.lst (segs B)]]] (.lst (segs (A ++ B))) := by
  refine pgood_of_out 4 (good_of_wp isF73 (Nat.le_refl _) ?_)
  unfold ac73
  simp only [go_sem, simprocAttr]
  refine loop_rule (fun m fr σ => ∃ i : Nat, i ≤ 2 ∧ m = 2 - i ∧ fr = [(0, .lst [[.lst (segs A)], [.lst (segs B)]]), (3, .i (if i = 0 then 0 else if i = 1 then A.length else A.length + B.length : Nat)), (9, .lst [[.lst (segs A)], [.lst (segs B)]]), (10, .i 2), (11, .i i)] ∧ σ = Store.empty) 2 ⟨0, by omega, rfl, rfl, rfl⟩ ?_
  rintro m fr σ ⟨i, h1, rfl, rfl, rfl⟩
  have hwA : IntKind.i64.wrap ((0 : Nat) + (A.length : Int)) = (A.length : Int) := by rw [wrap_id (by omega) (by omega)]; omega
  have hwA2 : IntKind.i64.wrap ((0 : Int) + (A.length : Int)) = (A.length : Int) := by rw [wrap_id (by omega) (by omega)]; omega
  have c00 : ((0 : Nat) : Int) = 0 := rfl
  have hwB : IntKind.i64.wrap ((A.length : Int) + (B.length : Int)) = ((A.length + B.length : Nat) : Int) := by rw [wrap_id (by omega) (by omega)]; omega
  have w01 : IntKind.i64.wrap ((0 : Nat) + 1) = ((1 : Nat) : Int) := by decide
  have w12 : IntKind.i64.wrap ((1 : Nat) + 1) = ((2 : Nat) : Int) := by decide
  match i, h1 with
  | 0, _ =>
    have q : ((0 : Nat) : Int) < 2 := by omega
    have q0 : (0 : Int) ≤ ((0 : Nat) : Int) := by omega
    have qn : ¬ ((A.length : Int) < 0) := by omega
    simp only [go_sem, simprocAttr, q, q0, segs_len, c00, hwA, hwA2, qn, w01]
    exact back_of _ (by omega) ⟨1, by omega, rfl, rfl, rfl⟩
  | 1, _ =>
    have q : ((1 : Nat) : Int) < 2 := by omega
    have q0 : (0 : Int) ≤ ((1 : Nat) : Int) := by omega
    have qn : ¬ (((A.length + B.length : Nat) : Int) < 0) := by omega
    have e1 : (if (1 : Nat) = 0 then 0 else if (1 : Nat) = 1 then A.length else A.length + B.length : Nat) = A.length := rfl
    simp only [go_sem, simprocAttr, q, q0, segs_len, e1, hwB, qn, w12]
    exact back_of _ (by omega) ⟨2, by omega, rfl, rfl, rfl⟩
  | 2, _ =>
    have q : ¬ (((2 : Nat) : Int) < 2) := by omega
    have e1 : (if (2 : Nat) = 0 then 0 else if (2 : Nat) = 1 then A.length else A.length + B.length : Nat) = A.length + B.length := rfl
    simp only [go_sem, simprocAttr, q, e1]
    refine (grow_ok (A.length + B.length) (by omega) (σ := Store.empty) alive_nil).mono fun v σ' hv => ?_
    obtain ⟨a0, _⟩ := hv
    simp only [go_sem, simprocAttr]
    refine loop_rule (fun m fr σ => ∃ (i : Nat) (v : AVal), i ≤ 2 ∧ m = 2 - i ∧ fr = [(6, v), (25, .lst [[.lst (segs A)], [.lst (segs B)]]), (26, .i 2), (27, .i i)] ∧ Acc σ 2 v (if i = 0 then [] else if i = 1 then segs A else segs (A ++ B)) []) 2 ⟨0, v, by omega, rfl, rfl, a0⟩ ?_
    clear a0
    rintro m fr σ ⟨i, v, h1, rfl, rfl, h2⟩
    match i, h1 with
    | 0, _ =>
      have q : ((0 : Nat) : Int) < 2 := by omega
      have q0 : (0 : Int) ≤ ((0 : Nat) : Int) := by omega
      simp only [go_sem, simprocAttr, q, q0, segs_all]
      refine acc_append h2 (by simp only [if_true, List.length_nil, segs_len]; omega) (by simp only [if_true, List.length_nil, segs_len]; omega) fun v' σ2 a1 _ => ?_
      simp only [go_sem, simprocAttr, w01]
      exact back_of _ (by omega) ⟨1, v', by omega, rfl, rfl, by simpa using a1⟩
    | 1, _ =>
      have q : ((1 : Nat) : Int) < 2 := by omega
      have q0 : (0 : Int) ≤ ((1 : Nat) : Int) := by omega
      have h2' : Acc σ 2 v (segs A) [] := h2
      simp only [go_sem, simprocAttr, q, q0, segs_all]
      refine acc_append h2' (by simp only [segs_len]; omega) (by simp only [segs_len]; omega) fun v' σ2 a1 _ => ?_
      simp only [go_sem, simprocAttr, w12]
      exact back_of _ (by omega) ⟨2, v', by omega, rfl, rfl, by rw [← segs_app] at a1; exact a1⟩
    | 2, _ =>
      have q : ¬ (((2 : Nat) : Int) < 2) := by omega
      have h2' : Acc σ 2 v (segs (A ++ B)) [] := h2
      simp only [go_sem, simprocAttr, q]
      exact acc_out_imm (m := 2) h2' (segs_imm _ 2)
end Go.Proofs

set_option linter.unusedSimpArgs false
set_option linter.unusedVariables false
namespace Go.Proofs
open Go.Ab

theorem Cx.pick_len (x : Cx) : ∀ (LS : List (List St)) (s : St), (x.pick LS s).length ≤ LS.length
  | [], s => by simp [Cx.pick]
  | L :: r, s => by
    unfold Cx.pick
    split
    · rename_i l h
      have := x.pick_len r l.to
      simp only [List.length_cons]
      omega
    · have := x.pick_len r s
      simp only [List.length_cons]
      omega
theorem listOf_len (g : Gr) (w : Wt) (down : List Bool) (d : Int) : (listOf g w down d).1.length ≤ 10 := by
  unfold listOf
  split
  case isFalse => simp
  rename_i h0
  split
  · rename_i R hR
    have hr := cost_right h0
    have hxok : (cxOf g w down).Ok := ⟨ptsOk_of hr⟩
    have hst : VSt (cxOf g w down).g w.start := start_valid hr
    obtain ⟨_, h2, _⟩ := roundsF_spec hxok _ _ _ _ R hR ⟨[], ⟨rfl, by simp, by simpa using hst⟩⟩ (by simpa using hst)
    have a1 := (cxOf g w down).pick_len (((cxOf g w down).leftL R).drop 1) w.start
    have a2 := (cxOf g w down).leftL_len R
    have a3 := cutD_rng d
    rw [List.length_drop] at a1
    simp only [List.length_cons, List.length_nil] at h2
    simp only
    omega
  · simp
theorem aroundL_len (g : Gr) (e to d : Int) : (aroundL g e to d).1.length ≤ 10 := by
  unfold aroundL
  split
  · exact listOf_len _ _ _ _
  · simp

theorem rows_out {σ : Store} {m id ver off len sz : Nat} {fz : Bool} {xs ys : List (List AVal)} (h : Ab.rowAt σ id ver = some (fz, sz, xs)) (hl : off + len ≤ xs.length) (hy : (xs.drop off).take len = ys) (hs : ∀ y ∈ ys, ∀ c ∈ y, immA (m + 1) c = true) :
    Out (m + 2) σ (.sl id ver off len sz) (.lst ys) ∧ reach (m + 2) σ (.sl id ver off len sz) = [id] := by
  constructor
  · refine ⟨.lst ys, ?_, Sub.refl _⟩
    have e : mapO (mapO (snap (m + 1) σ)) ys = some ys := mapO_id fun y hy' => mapO_id fun c hc => (imm_snap (m + 1) c (hs y hy' c hc)).1
    unfold snap
    simp only [h, hl, and_self, if_true, hy, e, Option.map_some]
  · rw [show reach (m + 2) σ (.sl id ver off len sz) = id :: ((xs.drop off).take len).flatMap (fun c => c.flatMap (reach (m + 1) σ)) from by conv => { lhs; unfold reach }; simp only [h]]
    rw [hy, imm_reach hs]

theorem imm_segs (l : List Sg) : immA 3 (.lst (segs l)) = true := by
  rfl

def arSpec (w : Pw) (e : Int) (s : Pk) : Bool × Pk :=
  match s.l with
  | [] => (false, s)
  | x :: r =>
    if (aroundL w.g e (segEnd w.g x) w.depth).2 ≠ 0 ∨ w.depth < ((aroundL w.g e (segEnd w.g x) w.depth).1.length + r.length : Nat) then (false, s)
    else (true, { s with l := (aroundL w.g e (segEnd w.g x) w.depth).1 ++ r, ar := s.ar + 1, most := max s.most ((aroundL w.g e (segEnd w.g x) w.depth).1 ++ r).length })

theorem around_ok (w : Pw) (hok : w.g.Ok) : AroundOk w (arSpec w) := by
  intro σ pid others s x r e hl h1 h2 h3 h4 hbd h
  refine good_of_wp isF53 (Nat.le_refl _) ?_
  unfold ac53
  have hr := hop_range hok h1 (by rw [h2])
  rw [h2] at hr
  have hb1 := hok.1
  have hlr := hbd.l
  have har := hbd.ar
  have hmo := hbd.most
  obtain ⟨hno, ve, g1, g2⟩ := id h
  have r1 := rowAt_get g1
  have es : arSpec w e s = if (aroundL w.g e (segEnd w.g x) w.depth).2 ≠ 0 ∨ w.depth < ((aroundL w.g e (segEnd w.g x) w.depth).1.length + r.length : Nat) then (false, s)
    else (true, { s with l := (aroundL w.g e (segEnd w.g x) w.depth).1 ++ r, ar := s.ar + 1, most := max s.most ((aroundL w.g e (segEnd w.g x) w.depth).1 ++ r).length }) := by
    unfold arSpec; rw [hl]
  have hxt : x.t < 9223372036854775808 := by
    have hs : w.g.isSeg x = true := by
      cases hs : w.g.isSeg x with
      | true => rfl
      | false => simp [labelBad, hs] at h1
    have := hok.2.2.1
    unfold Gr.isSeg at hs
    split at hs
    · have := (decide_eq_true_iff.1 hs).2; omega
    · have := (decide_eq_true_iff.1 hs).2; omega
  have hal := aroundL_len w.g e (segEnd w.g x) w.depth
  have rep := repair_ok w.g (by omega) e (segEnd w.g x) w.depth (by simp only at hr; omega)
  rw [hl] at hlr
  simp only [List.length_cons] at hlr
  generalize aroundL w.g e (segEnd w.g x) w.depth = q at *
  obtain ⟨A, c⟩ := q
  have hends := end_ok w s x r hl hxt
  unfold Pw.cells at r1
  rw [hl] at r1
  simp only [go_sem, simprocAttr]
  unfold op53_8
  simp only [go_sem, simprocAttr, r1]
  refine goodD_out 4 (outL1 h.out) hends rfl ?_
  simp only [go_sem, simprocAttr, r1]
  refine goodD_imm rep rfl ?_
  have lS : (segs (x :: r)).length = r.length + 1 := by simp [segs]
  have hA : A.length ≤ 10 := hal
  have hR : r.length ≤ 1000000 := by omega
  have w1 : IntKind.i64.wrap ((A.length : Int) + ((r.length + 1 : Nat) : Int)) = ((A.length + r.length + 1 : Nat) : Int) := by rw [wrap_id (by omega) (by omega)]; omega
  have w2 : IntKind.i64.wrap (((A.length + r.length + 1 : Nat) : Int) - 1) = ((A.length + r.length : Nat) : Int) := by rw [wrap_id (by omega) (by omega)]; omega
  simp only [go_sem, simprocAttr]
  unfold op53_22
  by_cases hc : c = 0
  case neg =>
    rw [if_pos (.inl hc)] at es
    rw [es]
    simp only [go_sem, simprocAttr, hc]
    exact ⟨h, fun _ _ => trivial⟩
  subst hc
  simp only [go_sem, simprocAttr, r1, lS, segs_len, w1, w2, gt_iff_lt]
  by_cases hd : w.depth < ((A.length + r.length : Nat) : Int)
  · rw [if_pos (.inr hd)] at es
    rw [es]
    simp only [go_sem, simprocAttr, hd]
    exact ⟨h, fun _ _ => trivial⟩
  rw [if_neg (fun q => q.elim (fun q => q rfl) hd)] at es
  rw [es]
  have q1 : (1 : Int) ≤ ((segs (x :: r)).length : Int) := by rw [lS]; omega
  have q2 := segs_all (x :: r)
  have q3 : List.take ((segs (x :: r)).length - 1) (List.drop 1 (segs (x :: r))) = segs r := by
    simp only [segs, List.map_cons, List.length_cons, Nat.add_sub_cancel, List.drop_succ_cons, List.drop_zero]
    exact List.take_length
  simp only [go_sem, simprocAttr, hd, r1, q1, q2, q3, Int.le_refl]
  intro nb hnb
  have hal0 := g2.1
  have cc := concat_ok A r (by omega) (by omega)
  have rn : Ab.rowAt (σ.set nb (.row 0 false 1 [[.lst (segs A)], [.lst (segs r)]])) nb 0 = some (false, 1, [[.lst (segs A)], [.lst (segs r)]]) := rowAt_self
  have ro := rows_out (m := 2) (off := 0) (len := 2) (ys := [[.lst (segs A)], [.lst (segs r)]]) rn (by simp) rfl (by
    intro y hy c hc
    simp only [List.mem_cons, List.mem_nil_iff, or_false] at hy
    rcases hy with rfl | rfl <;> rw [List.mem_singleton.1 hc] <;> exact imm_segs _)
  simp only [go_sem, simprocAttr]
  refine good_out_fz 4 (xs := [.lst [[.lst (segs A)], [.lst (segs r)]]]) ⟨ro.1, trivial⟩ cc fun p hp => ?_
  have hpn : ∀ j, j ≠ nb → p j = false := fun j hj => by
    cases hpj : p j with
    | false => rfl
    | true =>
      have : j ∈ reachL 4 (σ.set nb (.row 0 false 1 [[.lst (segs A)], [.lst (segs r)]])) [.sl nb 0 0 2 1] := hp j hpj
      unfold reachL at this
      rw [List.flatMap_cons, ro.2] at this
      simp only [List.flatMap_nil, List.append_nil, List.mem_singleton] at this
      exact absurd this hj
  have same : ∀ j, (σ.get j).isSome = true → ((σ.set nb (.row 0 false 1 [[.lst (segs A)], [.lst (segs r)]])).freeze p).get j = σ.get j := fun j hj => by
    have hjn : j ≠ nb := fun q => by rw [q, hnb] at hj; cases hj
    rw [Store.get_freeze, Store.get_set_ne _ _ hjn, hpn j hjn]
    cases hg : σ.get j with
    | none => rfl
    | some o => cases o <;> simp
  generalize (σ.set nb (.row 0 false 1 [[.lst (segs A)], [.lst (segs r)]])).freeze p = τ at *
  have g1' := (same pid (by rw [g1]; rfl)).trans g1
  have a2 : Acc τ 1 ve (ints s.es) (pid :: others) := g2.keep (fun j hj => same j (g2.objs_alive j hj)) (fun j hj => by rw [same j (hal0 j hj)]; exact hal0 j hj) g2.objs_not
  have same' : ∀ j ∈ others, τ.get j = σ.get j := fun j hj => same j (hal0 j (by simp [hj]))
  clear same hpn ro rn hnb g1 r1 g2 hal0 h
  have r1 := rowAt_get g1'
  unfold Pw.cells at r1
  have wa : IntKind.i64.wrap (s.ar + 1) = s.ar + 1 := wrap_id (by omega) (by omega)
  simp only [go_sem, simprocAttr, r1, wa]
  unfold op53_60
  simp only [go_sem, simprocAttr, segs_len]
  have em : (if ((A.length + r.length : Nat) : Int) > s.most then ((A.length + r.length : Nat) : Int) else s.most) = max s.most ((A.length + r.length : Nat) : Int) := by
    rw [Int.max_def]; split <;> split <;> omega
  rw [em]
  refine ⟨⟨hno, ve, ?_, a2.other (by simp) _⟩, fun j hj => ?_⟩
  · rw [Store.get_set_self]
    simp [Pw.cells]
  · rw [Store.get_set_ne _ _ (fun q : j = pid => hno (by rw [← q]; exact hj)), same' j hj]
end Go.Proofs

set_option linter.unusedSimpArgs false
set_option linter.unusedVariables false
namespace Go.Proofs
open Go.Ab

/-! ### Walks with repair -/
theorem arSpec_spec (w : Pw) (e : Int) (s : Pk) : ((arSpec w e s).1 = false ∧ (arSpec w e s).2 = s) ∨
    ∃ x r L, s.l = x :: r ∧ L.length ≤ 10 ∧ (aroundL w.g e (segEnd w.g x) w.depth) = (L, 0) ∧ (L.length + r.length : Nat) ≤ w.depth ∧ arSpec w e s = (true, { s with l := L ++ r, ar := s.ar + 1, most := max s.most (L ++ r).length }) := by
  cases hl : s.l with
  | nil => exact .inl (by unfold arSpec; rw [hl]; exact ⟨rfl, rfl⟩)
  | cons x r =>
    have es : arSpec w e s = if (aroundL w.g e (segEnd w.g x) w.depth).2 ≠ 0 ∨ w.depth < ((aroundL w.g e (segEnd w.g x) w.depth).1.length + r.length : Nat) then (false, s)
      else (true, { s with l := (aroundL w.g e (segEnd w.g x) w.depth).1 ++ r, ar := s.ar + 1, most := max s.most ((aroundL w.g e (segEnd w.g x) w.depth).1 ++ r).length }) := by
      unfold arSpec; rw [hl]
    rw [es]
    by_cases hc : (aroundL w.g e (segEnd w.g x) w.depth).2 ≠ 0 ∨ w.depth < ((aroundL w.g e (segEnd w.g x) w.depth).1.length + r.length : Nat)
    · rw [if_pos hc]; exact .inl ⟨rfl, rfl⟩
    · rw [if_neg hc]
      have h1 : (aroundL w.g e (segEnd w.g x) w.depth).2 = 0 := Decidable.byContradiction fun q => hc (.inl q)
      have h2 := fun q => hc (.inr q)
      exact .inr ⟨x, r, _, rfl, aroundL_len _ _ _ _, Prod.ext rfl h1, by omega, rfl⟩

inductive StepIs (w : Pw) (s : Pk) : Int × Pk → Prop
  | done : s.l = [] → StepIs w s (1, s)
  | far : s.l ≠ [] → s.es.length = 255 → StepIs w s (2, s)
  | bad (x : Sg) (r : List Sg) : s.l = x :: r → labelBad w.g x s.at_ = true → StepIs w s (5, s)
  | noway (x : Sg) (r : List Sg) : s.l = x :: r → ¬ (x.e = false ∧ x.t = s.at_) → labelBad w.g x s.at_ = false → (hopOf w x s.at_).2 = false → StepIs w s (4, s)
  | drop (x : Sg) (r : List Sg) : s.l = x :: r → x.e = false → x.t = s.at_ → StepIs w s (0, { s with l := r })
  | cross (x : Sg) (r : List Sg) (e : Int) : s.l = x :: r → s.es.length ≠ 255 → ¬ (x.e = false ∧ x.t = s.at_) → labelBad w.g x s.at_ = false → hopOf w x s.at_ = (e, true) → isUp w.down e = true → StepIs w s (0, crossed w s x r e)
  | stuck (x : Sg) (r : List Sg) (e : Int) : s.l = x :: r → s.es.length ≠ 255 → ¬ (x.e = false ∧ x.t = s.at_) → labelBad w.g x s.at_ = false → hopOf w x s.at_ = (e, true) → isUp w.down e = false → (w.strict = true ∨ (arSpec w e s).1 = false) → StepIs w s (3, s)
  | around (x : Sg) (r L : List Sg) (e : Int) : s.l = x :: r → s.es.length ≠ 255 → ¬ (x.e = false ∧ x.t = s.at_) → labelBad w.g x s.at_ = false → hopOf w x s.at_ = (e, true) → isUp w.down e = false → w.strict = false → L.length ≤ 10 →
      aroundL w.g e (segEnd w.g x) w.depth = (L, 0) → ((L.length + r.length : Nat) : Int) ≤ w.depth → StepIs w s (if s.ar + 1 = 255 then 2 else 0, { s with l := L ++ r, ar := s.ar + 1, most := max s.most (L ++ r).length })
theorem step_is (w : Pw) (s : Pk) : StepIs w s (stepOf w (arSpec w) s) := by
  cases hl : s.l with
  | nil =>
    have : stepOf w (arSpec w) s = (1, s) := by unfold stepOf; rw [hl]
    rw [this]; exact .done hl
  | cons x r =>
    have e1 : stepOf w (arSpec w) s = if x.e = false ∧ x.t = s.at_ then (0, { s with l := r })
        else if s.es.length = 255 then (2, s)
        else if labelBad w.g x s.at_ = true then (5, s)
        else if (hopOf w x s.at_).2 = false then (4, s)
        else if isUp w.down (hopOf w x s.at_).1 = true then (0, crossed w s x r (hopOf w x s.at_).1)
        else if w.strict = true then (3, s)
        else if (arSpec w (hopOf w x s.at_).1 s).1 = false then (3, (arSpec w (hopOf w x s.at_).1 s).2)
        else if (arSpec w (hopOf w x s.at_).1 s).2.ar = 255 then (2, (arSpec w (hopOf w x s.at_).1 s).2) else (0, (arSpec w (hopOf w x s.at_).1 s).2) := by
      unfold stepOf; rw [hl]
    rw [e1]
    by_cases c1 : x.e = false ∧ x.t = s.at_
    · rw [if_pos c1]; exact .drop x r hl c1.1 c1.2
    rw [if_neg c1]
    by_cases c2 : s.es.length = 255
    · rw [if_pos c2]; exact .far (by rw [hl]; simp) c2
    rw [if_neg c2]
    by_cases c3 : labelBad w.g x s.at_ = true
    · rw [if_pos c3]; exact .bad x r hl c3
    rw [if_neg c3]
    have c3' : labelBad w.g x s.at_ = false := by simpa using c3
    by_cases c4 : (hopOf w x s.at_).2 = false
    · rw [if_pos c4]; exact .noway x r hl c1 c3' c4
    rw [if_neg c4]
    have c4' : hopOf w x s.at_ = ((hopOf w x s.at_).1, true) := Prod.ext rfl (by simpa using c4)
    by_cases c5 : isUp w.down (hopOf w x s.at_).1 = true
    · rw [if_pos c5]; exact .cross x r _ hl c2 c1 c3' c4' c5
    rw [if_neg c5]
    have c5' : isUp w.down (hopOf w x s.at_).1 = false := by simpa using c5
    by_cases c6 : w.strict = true
    · rw [if_pos c6]; exact .stuck x r _ hl c2 c1 c3' c4' c5' (.inl c6)
    rw [if_neg c6]
    rcases arSpec_spec w (hopOf w x s.at_).1 s with ⟨h1, h2⟩ | ⟨x', r', L, h1, h2, h3, h4, h5⟩
    · rw [if_pos h1, h2]; exact .stuck x r _ hl c2 c1 c3' c4' c5' (.inr h1)
    · rw [hl] at h1
      cases h1
      rw [h5]
      simp only [if_neg (show ¬ ((true : Bool) = false) by decide)]
      have := StepIs.around (w := w) (s := s) x r L _ hl c2 c1 c3' c4' c5' (by simpa using c6) h2 h3 h4
      by_cases c7 : s.ar + 1 = 255
      · rw [if_pos c7] at this ⊢; exact this
      · rw [if_neg c7] at this ⊢; exact this

def muA (s : Pk) : Nat := (300 - s.ar.toNat) * 20 + (256 - s.es.length) + s.l.length
structure JA (s : Pk) : Prop where
  fin : s.fin = 0
  es : s.es.length ≤ 255
  ar : 0 ≤ s.ar ∧ s.ar ≤ 254
  l : s.l.length ≤ 10000 + 10 * s.ar.toNat
  most : 0 ≤ s.most ∧ s.most ≤ 20000
theorem JA.bd {s : Pk} (h : JA s) : Bd s := ⟨h.es, by have := h.l; have := h.ar; omega, by have := h.ar; omega, by have := h.most; omega⟩
theorem jA (w : Pw) (s : Pk) (h : JA s) : s.fin = 0 ∧ Bd s ∧ (stepOf w (arSpec w) s).2.fin = 0 ∧ ((stepOf w (arSpec w) s).1 = 0 → JA (stepOf w (arSpec w) s).2 ∧ muA (stepOf w (arSpec w) s).2 < muA s) := by
  refine ⟨h.fin, h.bd, ?_⟩
  have h1 := h.fin
  have h2 := h.es
  have h3 := h.ar
  have h4 := h.l
  have h5 := h.most
  have := step_is w s
  generalize stepOf w (arSpec w) s = q at *
  cases this with
  | done => exact ⟨h1, fun e => by cases e⟩
  | far => exact ⟨h1, fun e => by cases e⟩
  | bad => exact ⟨h1, fun e => by cases e⟩
  | noway => exact ⟨h1, fun e => by cases e⟩
  | stuck => exact ⟨h1, fun e => by cases e⟩
  | drop x r hl =>
    rw [hl, List.length_cons] at h4
    exact ⟨h1, fun _ => ⟨⟨h1, h2, h3, by simp only; omega, h5⟩, by simp only [muA, hl, List.length_cons]; omega⟩⟩
  | cross x r e hl =>
    rw [hl, List.length_cons] at h4
    refine ⟨h1, fun _ => ⟨⟨h1, by simp only [crossed, List.length_append, List.length_cons, List.length_nil]; omega, h3, ?_, h5⟩, ?_⟩⟩
    · simp only [crossed]
      split
      · omega
      · simp only [List.length_cons]; omega
    · simp only [muA, crossed, hl, List.length_append, List.length_cons, List.length_nil]
      split
      · omega
      · simp only [List.length_cons]; omega
  | around x r L e hl _ _ _ _ _ _ hL =>
    rw [hl, List.length_cons] at h4
    refine ⟨h1, fun e => ?_⟩
    simp only at e
    have h6 : s.ar + 1 ≠ 255 := fun q => by rw [if_pos q] at e; cases e
    refine ⟨⟨h1, h2, by simp only; omega, ?_, ?_⟩, ?_⟩
    · simp only [List.length_append]; omega
    · simp only [List.length_append]; omega
    · simp only [muA, hl, List.length_append, List.length_cons]; omega

def arun (w : Pw) (from_ : Int) (l : List Sg) : Pk := runOf w (arSpec w) (muA (pk0 l from_) + 1) (pk0 l from_)
theorem ja0 {l : List Sg} (hl : l.length ≤ 10000) (from_ : Int) : JA (pk0 l from_) := ⟨rfl, by simp [pk0], by simp [pk0], by simp [pk0]; omega, by simp [pk0]; omega⟩
theorem arun_ok (w : Pw) (hok : w.g.Ok) (from_ : Int) (l : List Sg) (d0 : Int) (hd : w.depth = cutD d0) (hl : l.length ≤ 10000) (hf : 0 ≤ from_ ∧ from_ < w.g.n) :
    PGood Try.prog 14 [w.g.tab, .i from_, .lst (segs l), .i w.hash, .lst (bools w.down), .b w.strict, .i d0] (walkVal (arun w from_ l)) :=
  run_ok w hok (arSpec w) (around_ok w hok) from_ l d0 hd (by omega) JA muA (ja0 hl from_) (jA w) hf
def nowhere : Pk := ⟨[], [], -1, 4, 0, 0⟩
theorem run_out_ok (g : Gr) (hg : g.ls.length ≤ 1000000) (from_ : Int) (l : List Sg) (hash : Int) (down : List Bool) (strict : Bool) (d0 : Int) (hf : ¬ (0 ≤ from_ ∧ from_ < g.n)) :
    PGood Try.prog 14 [g.tab, .i from_, .lst (segs l), .i hash, .lst (bools down), .b strict, .i d0] (walkVal nowhere) := by
  refine pgood_of_out 4 (good_of_wp isF14 (Nat.le_refl _) ?_)
  unfold ac14
  simp only [go_sem, simprocAttr]
  intro cid hcid
  simp only [go_sem, simprocAttr]
  refine good_imm (tgraph_ok g hg) rfl ?_
  simp only [go_sem, simprocAttr, Gr.val]
  intro gid hgid
  have f1 := fun o => rowAt_fresh (o := o) hgid (j := cid) (ver := 0) (by rw [rowAt_self]; rfl)
  simp only [go_sem, simprocAttr]
  refine good_imm (is_ok g.n _ from_) rfl ?_
  simp only [go_sem, simprocAttr, hf, f1]
  exact out_agg (m := 3) ⟨out_nils, out_sc, out_sc, out_sc, out_sc, trivial⟩

theorem small_ok (g : Gr) : PGood Try.prog 9 [g.val] (.b (decide (g.n ≤ 10 ∧ (g.ls.length : Int) ≤ 16))) := by
  refine pgood_of_out 2 (good_of_wp isF9 (Nat.le_refl _) ?_)
  unfold ac9
  simp only [go_sem, simprocAttr, Gr.val]
  intro id hid
  simp only [go_sem, simprocAttr]
  by_cases h1 : g.n ≤ 10
  · simp only [go_sem, simprocAttr, h1]
    exact out_sc
  · simp only [go_sem, simprocAttr, h1]
    exact out_sc
theorem num_ok (x : Int) : PGood Try.prog 13 [.i x] (.i x) := by
  refine pgood_of_out 2 (good_of_wp isF13 (Nat.le_refl _) ?_)
  unfold ac13
  simp only [go_sem, simprocAttr]
  exact out_sc
theorem few_ok (w : Wt) : PGood Try.prog 10 [w.val] (.b (decide ((w.via.length : Int) ≤ 20 ∧ (w.nodes.length : Int) ≤ 60 ∧ (w.links.length : Int) ≤ 60 ∧ (w.cols.length : Int) ≤ 60))) := by
  refine pgood_of_out 2 (good_of_wp isF10 (Nat.le_refl _) ?_)
  unfold ac10
  have kw : known (AVal.agg w.cells) = some w.cells := rfl
  have lw : w.cells.length = 7 := rfl
  have tw : List.take 7 w.cells = w.cells := rfl
  simp only [go_sem, simprocAttr, Wt.val, kw, lw]
  intro id hid
  simp only [go_sem, simprocAttr, lw, tw, Wt.cells, ints_len]
  by_cases h1 : (w.via.length : Int) ≤ 20
  case neg =>
    simp only [go_sem, simprocAttr, h1]
    exact out_sc
  by_cases h2 : (w.nodes.length : Int) ≤ 60
  case neg =>
    simp only [go_sem, simprocAttr, h1, h2, ints_len]
    exact out_sc
  by_cases h3 : (w.links.length : Int) ≤ 60
  case neg =>
    simp only [go_sem, simprocAttr, h1, h2, h3, ints_len]
    exact out_sc
  simp only [go_sem, simprocAttr, h1, h2, h3, ints_len]
  exact out_sc
end Go.Proofs

set_option linter.unusedSimpArgs false
set_option linter.unusedVariables false
namespace Go.Proofs
open Go.Ab

theorem arun_inv (w : Pw) {K C : Pk → Prop} (hK : ∀ s, JA s → K s → (stepOf w (arSpec w) s).1 = 0 → K (stepOf w (arSpec w) s).2) (hC : ∀ s, JA s → K s → (stepOf w (arSpec w) s).1 ≠ 0 → C { (stepOf w (arSpec w) s).2 with fin := (stepOf w (arSpec w) s).1 }) : ∀ (f : Nat) (s : Pk), JA s → K s → muA s < f → C (runOf w (arSpec w) f s)
  | 0, s, _, _, h => by omega
  | f + 1, s, hj, hk, h => by
    unfold runOf
    by_cases h0 : (stepOf w (arSpec w) s).1 = 0
    · rw [if_pos h0]
      have := (jA w s hj).2.2.2 h0
      exact arun_inv w hK hC f _ this.1 (hK s hj hk h0) (by omega)
    · rw [if_neg h0]
      exact hC s hj hk h0

def pathOk (g : Gr) (down : List Bool) : Int → List Int → Int → Prop
  | a, [], b => a = b
  | a, e :: r, b => (g.ends e).1 = a ∧ (g.ends e).2.2 = true ∧ isUp down e = true ∧ pathOk g down (g.ends e).2.1 r b
theorem pathOk_snoc {g : Gr} {down : List Bool} : ∀ {a b : Int} {es : List Int} {e : Int}, pathOk g down a es b → (g.ends e).1 = b → (g.ends e).2.2 = true → isUp down e = true → pathOk g down a (es ++ [e]) (g.ends e).2.1
  | a, b, [], e, h, h1, h2, h3 => by
    have h' : a = b := h
    exact ⟨by rw [h1, h'], h2, h3, rfl⟩
  | a, b, x :: r, e, h, h1, h2, h3 => ⟨h.1, h.2.1, h.2.2.1, pathOk_snoc h.2.2.2 h1 h2 h3⟩
theorem hop_ends {w : Pw} {x : Sg} {a e : Int} (hok : w.g.Ok) (h1 : labelBad w.g x a = false) (h2 : hopOf w x a = (e, true)) : (w.g.ends e).1 = a ∧ (w.g.ends e).2.2 = true ∧ 0 ≤ e ∧ e < 2 * (w.g.ls.length : Int) := by
  have hr := hop_range hok h1 (by rw [h2])
  rw [h2] at hr
  refine ⟨?_, ends_is.2 hr, hr⟩
  obtain ⟨xe, t⟩ := x
  cases xe with
  | true =>
    have e1 : hopOf w ⟨true, t⟩ a = (t, true) := rfl
    rw [e1] at h2
    injection h2 with h2
    subst h2
    unfold labelBad at h1
    simp only [Bool.or_eq_false_iff, Bool.true_and, Bool.not_eq_false'] at h1
    exact of_decide_eq_true h1.2
  | false =>
    have eh : hopOf w ⟨false, t⟩ a = match (wnextOf w.g a t)[pickI w.hash (wnextOf w.g a t).length]? with
        | some e => (e, true)
        | none => (0, false) := rfl
    rw [eh] at h2
    cases hg : (wnextOf w.g a t)[pickI w.hash (wnextOf w.g a t).length]? with
    | none => rw [hg] at h2; cases h2
    | some e' =>
      rw [hg] at h2
      injection h2 with h2
      subst h2
      have hm := List.mem_of_getElem? hg
      unfold wnextOf at hm
      split at hm
      · unfold wnext nextOf at hm
        split at hm
        · exact (Gr.mem_out (List.mem_filter.1 hm).1).2.2
        · cases hm
      · cases hm

structure Walked (w : Pw) (from_ : Int) (s : Pk) : Prop where
  path : pathOk w.g w.down from_ s.es s.at_
  rng : ∀ e ∈ s.es, 0 ≤ e ∧ e < 2 * (w.g.ls.length : Int)
theorem walked_step {w : Pw} (hok : w.g.Ok) {from_ : Int} {s : Pk} (h : Walked w from_ s) : Walked w from_ (stepOf w (arSpec w) s).2 := by
  have := step_is w s
  generalize stepOf w (arSpec w) s = q at *
  cases this with
  | done => exact h
  | far => exact h
  | bad => exact h
  | noway => exact h
  | stuck => exact h
  | drop x r hl => exact ⟨h.path, h.rng⟩
  | around x r L e hl => exact ⟨h.path, h.rng⟩
  | cross x r e hl _ _ h3 h4 h5 =>
    have he := hop_ends hok h3 h4
    exact ⟨pathOk_snoc h.path he.1 he.2.1 h5, fun z hz => by
      rcases List.mem_append.1 hz with hz | hz
      · exact h.rng z hz
      · rw [List.mem_singleton.1 hz]; exact he.2.2⟩
theorem step_code (w : Pw) (s : Pk) : 0 ≤ (stepOf w (arSpec w) s).1 ∧ (stepOf w (arSpec w) s).1 ≤ 5 := by
  have := step_is w s
  generalize stepOf w (arSpec w) s = q at *
  cases this <;> first | (simp only; omega) | (simp only; split <;> omega)
theorem step_small (w : Pw) (s : Pk) (h : JA s) : (stepOf w (arSpec w) s).2.es.length ≤ 255 ∧ 0 ≤ (stepOf w (arSpec w) s).2.ar ∧ (stepOf w (arSpec w) s).2.ar ≤ 255 ∧ 0 ≤ (stepOf w (arSpec w) s).2.most ∧ (stepOf w (arSpec w) s).2.most ≤ 20000 := by
  have := step_is w s
  have h2 := h.es
  have h3 := h.ar
  have h4 := h.l
  have h5 := h.most
  generalize stepOf w (arSpec w) s = q at *
  cases this with
  | done => exact ⟨h2, by simp only; omega, by simp only; omega, h5⟩
  | far => exact ⟨h2, by simp only; omega, by simp only; omega, h5⟩
  | bad => exact ⟨h2, by simp only; omega, by simp only; omega, h5⟩
  | noway => exact ⟨h2, by simp only; omega, by simp only; omega, h5⟩
  | stuck => exact ⟨h2, by simp only; omega, by simp only; omega, h5⟩
  | drop x r hl => exact ⟨h2, by simp only; omega, by simp only; omega, h5⟩
  | cross x r e hl =>
    exact ⟨by simp only [crossed, List.length_append, List.length_cons, List.length_nil]; omega, by simp only [crossed]; omega, by simp only [crossed]; omega, h5⟩
  | around x r L e hl _ _ _ _ _ _ hL =>
    rw [hl, List.length_cons] at h4
    exact ⟨h2, by simp only; omega, by simp only; omega, by simp only [List.length_append]; omega, by simp only [List.length_append]; omega⟩
/-- What every walk is. -/
structure Ended (w : Pw) (from_ : Int) (s : Pk) : Prop where
  path : pathOk w.g w.down from_ s.es s.at_
  rng : ∀ e ∈ s.es, 0 ≤ e ∧ e < 2 * (w.g.ls.length : Int)
  es : s.es.length ≤ 255
  fin : 1 ≤ s.fin ∧ s.fin ≤ 5
  ar : 0 ≤ s.ar ∧ s.ar ≤ 255
  most : 0 ≤ s.most ∧ s.most ≤ 20000
theorem arun_ended (w : Pw) (hok : w.g.Ok) (from_ : Int) (l : List Sg) (hl : l.length ≤ 10000) : Ended w from_ (arun w from_ l) := by
  refine arun_inv w (K := Walked w from_) (C := Ended w from_) (fun s _ hk _ => walked_step hok hk) (fun s hj hk h0 => ?_) _ _ (ja0 hl from_) ⟨rfl, fun e he => by cases he⟩ (by omega)
  have h1 := walked_step hok hk
  have h2 := step_small w s hj
  have h3 := step_code w s
  exact ⟨h1.path, h1.rng, h2.1, ⟨by simp only; omega, h3.2⟩, ⟨h2.2.1, h2.2.2.1⟩, h2.2.2.2⟩

theorem up_notdown {down : List Bool} {e : Int} (he : 0 ≤ e) : isDown down (e / 2) = !isUp down e := by
  unfold isDown isUp
  have : 0 ≤ e / 2 := by omega
  by_cases h : (e / 2) < (down.length : Int)
  · have h2 : ¬ ((down.length : Int) ≤ e / 2) := by omega
    simp [this, h, h2]
  · have h2 : ((down.length : Int) ≤ e / 2) := by omega
    simp [this, h, h2]
end Go.Proofs

set_option linter.unusedSimpArgs false
set_option linter.unusedVariables false
namespace Go.Proofs
open Go.Ab

/-! ### The order in which a node segment is searched -/
theorem wnext_facts {g : Gr} (hg : g.Ok) {a t e : Int} (h : e ∈ wnextOf g a t) : 0 ≤ wdist g (g.ends e).2.1 t ∧ wdist g (g.ends e).2.1 t < wdist g a t := by
  have hm := mem_wnext hg h
  unfold wnextOf at h
  split at h
  · rename_i hh
    have k := (mem_next hg hh.2).1 h
    have hm2 := g.metric_of hg hm.1.1 hm.1.2
    unfold wdist
    rw [if_pos ⟨hm.2.2, hh.2⟩, if_pos hh]
    exact ⟨k.2.2.2.2.1, by omega⟩
  · cases h
theorem wnext_ne {g : Gr} (hg : g.Ok) {a t : Int} (h : 0 ≤ wdist g a t) (hne : a ≠ t) : wnextOf g a t ≠ [] := by
  have hr := wdist_rng (g := g) (a := a) (t := t) (by omega)
  unfold wdist at h
  rw [if_pos hr] at h
  have hd := spfFrom_dist hg (down := []) hr.2
  rcases hd.reach a hr.1.1 hr.1.2 h with ⟨h1, _⟩ | ⟨k, k1, k2, k3, k4⟩
  · exact absurd h1 hne
  · have hb := ends_bak k1.1 k1.2.1
    have hu := use_bak k1
    have : bak k ∈ wnextOf g a t := by
      unfold wnextOf
      rw [if_pos hr]
      refine (mem_next hg hr.2).2 ⟨hr.1, ⟨hu.1, hu.2.1⟩, by rw [hb.1, k2], hu.2.2, by rw [hb.2]; exact k3, by rw [hb.2, metric_bak k1.1]; exact k4⟩
    intro q
    rw [q] at this
    cases this
theorem wdist_self {g : Gr} (hg : g.Ok) {t : Int} (ht : 0 ≤ t ∧ t < g.n) : wdist g t t = 0 := by
  unfold wdist
  rw [if_pos ⟨ht, ht⟩]
  exact (spfFrom_dist hg (down := []) ht).src

structure BSeen (g : Gr) (s : List Bool × List Int) : Prop where
  seen : ∀ y : Int, 0 ≤ y → s.1.getD y.toNat false = true → y ∈ s.2
theorem BSeen.step {g : Gr} {s : List Bool × List Int} (h : BSeen g s) {e : Int} (he : 0 ≤ (g.ends e).2.1) : BSeen g (bfsIn g s e) ∧ s.2 <+: (bfsIn g s e).2 ∧ (g.ends e).2.1 ∈ (bfsIn g s e).2 := by
  unfold bfsIn
  split
  · rename_i h1
    exact ⟨h, List.prefix_refl _, h.seen _ he h1⟩
  · refine ⟨⟨fun y hy hs => ?_⟩, List.prefix_append _ _, by simp⟩
    simp only at hs ⊢
    by_cases hq : y = (g.ends e).2.1
    · rw [hq]; simp
    · rw [List.getD_eq_getElem?_getD, List.getElem?_set_ne (by omega), ← List.getD_eq_getElem?_getD] at hs
      exact List.mem_append_left _ (h.seen y hy hs)
theorem BSeen.fold {g : Gr} : ∀ (l : List Int) (s : List Bool × List Int), BSeen g s → (∀ e ∈ l, 0 ≤ (g.ends e).2.1) → BSeen g (l.foldl (bfsIn g) s) ∧ s.2 <+: (l.foldl (bfsIn g) s).2 ∧ ∀ e ∈ l, (g.ends e).2.1 ∈ (l.foldl (bfsIn g) s).2
  | [], s, h, _ => ⟨h, List.prefix_refl _, fun e he => by cases he⟩
  | e :: r, s, h, hl => by
    obtain ⟨h1, h2, h3⟩ := h.step (hl e (by simp))
    obtain ⟨k1, k2, k3⟩ := BSeen.fold r _ h1 fun x hx => hl x (by simp [hx])
    refine ⟨k1, h2.trans k2, fun x hx => ?_⟩
    rcases List.mem_cons.1 hx with rfl | hx
    · exact k2.subset h3
    · exact k3 x hx
theorem bfsF_closed {g : Gr} (hok : g.Ok) {to : Int} : ∀ (f i : Nat) (s : List Bool × List Int), BInv g s → BSeen g s → (∀ j < i, j < s.2.length → ∀ e ∈ wnextOf g (s.2.getD j 0) to, (g.ends e).2.1 ∈ s.2) → g.n.toNat ≤ i + f →
    s.2 <+: (bfsF g to f i s).2 ∧ ∀ x ∈ (bfsF g to f i s).2, ∀ e ∈ wnextOf g x to, (g.ends e).2.1 ∈ (bfsF g to f i s).2 := by
  have fin : ∀ (i : Nat) (s : List Bool × List Int), s.2.length ≤ i → (∀ j < i, j < s.2.length → ∀ e ∈ wnextOf g (s.2.getD j 0) to, (g.ends e).2.1 ∈ s.2) → ∀ x ∈ s.2, ∀ e ∈ wnextOf g x to, (g.ends e).2.1 ∈ s.2 := fun i s h1 h2 x hx e he => by
    obtain ⟨j, hj⟩ := List.getElem?_of_mem hx
    have hjl := (List.getElem?_eq_some_iff.1 hj).1
    have hd : s.2.getD j 0 = x := by rw [List.getD_eq_getElem?_getD, hj]; rfl
    exact h2 j (by omega) hjl e (by rw [hd]; exact he)
  intro f
  induction f with
  | zero =>
    intro i s hB hS hC hf
    have := hB.le
    exact ⟨List.prefix_refl _, fin i s (by omega) hC⟩
  | succ f ih =>
    intro i s hB hS hC hf
    unfold bfsF
    split
    · rename_i hi
      have hrg : ∀ e ∈ wnextOf g (s.2.getD i 0) to, 0 ≤ (g.ends e).2.1 ∧ (g.ends e).2.1 < g.n := fun e he => (mem_wnext hok he).2.2
      obtain ⟨k1, k2, k3⟩ := BSeen.fold (g := g) (wnextOf g (s.2.getD i 0) to) s hS fun e he => (hrg e he).1
      have k0 := BInv.fold (g := g) _ s hB hrg
      have hget : ∀ j < s.2.length, ((wnextOf g (s.2.getD i 0) to).foldl (bfsIn g) s).2.getD j 0 = s.2.getD j 0 := fun j hj => by
        obtain ⟨t, ht⟩ := k2
        rw [← ht, List.getD_eq_getElem?_getD, List.getElem?_append_left hj, ← List.getD_eq_getElem?_getD]
      obtain ⟨m1, m2⟩ := ih (i + 1) _ k0 k1 (fun j hj hjl e he => by
        by_cases hji : j = i
        · subst hji
          rw [hget j hi] at he
          exact k3 e he
        · rw [hget j (by omega)] at he
          exact k2.subset (hC j (by omega) (by omega) e he)) (by omega)
      exact ⟨k2.trans m1, m2⟩
    · exact ⟨List.prefix_refl _, fin i s (by omega) hC⟩
theorem bfs_closed {g : Gr} (hok : g.Ok) {from_ to : Int} (hf : 0 ≤ from_ ∧ from_ < g.n) : from_ ∈ orderOf g from_ to ∧ ∀ x ∈ orderOf g from_ to, ∀ e ∈ wnextOf g x to, (g.ends e).2.1 ∈ orderOf g from_ to := by
  have hp := order_perm g from_ to
  obtain ⟨h1, h2⟩ := bfsF_closed hok (to := to) g.n.toNat 0 _ (bfs_inv0 hf) ⟨fun y hy hs => by
    by_cases hq : y = from_
    · simp [hq]
    · rw [List.getD_eq_getElem?_getD, List.getElem?_set_ne (by omega), List.getElem?_replicate] at hs
      split at hs <;> cases hs⟩ (fun j hj => by omega) (by omega)
  refine ⟨hp.mem_iff.2 (h1.subset (by simp)), fun x hx e he => hp.mem_iff.2 (h2 x (hp.mem_iff.1 hx) e he)⟩

abbrev Desc (D : Int → Int) (l : List Int) : Prop := l.Pairwise fun a b => D b ≤ D a
theorem swap1_at (A B : List Int) (y x : Int) : swap1 (A ++ y :: x :: B) A.length = A ++ x :: y :: B := by
  unfold swap1
  rw [show (A ++ y :: x :: B).getD A.length 0 = y by rw [List.getD_eq_getElem?_getD, List.getElem?_append_right (by omega)]; simp]
  rw [show (A ++ y :: x :: B).getD (A.length + 1) 0 = x by rw [List.getD_eq_getElem?_getD, List.getElem?_append_right (by omega)]; simp]
  rw [List.set_append_right _ _ (by omega), List.set_append_right _ _ (by omega)]
  simp
theorem insF_sorted (D : Int → Int) : ∀ (k : Nat) (A : List Int) (x : Int) (B : List Int), A.length = k → Desc D A → ∃ A', insF D k (A ++ x :: B) = A' ++ B ∧ A'.length = k + 1 ∧ Desc D A' ∧ ∀ z ∈ A', z = x ∨ z ∈ A
  | 0, A, x, B, h, _ => by
    have : A = [] := List.eq_nil_of_length_eq_zero h
    subst this
    exact ⟨[x], rfl, rfl, by simp, by simp⟩
  | k + 1, A, x, B, h, hs => by
    obtain ⟨A0, y, rfl⟩ : ∃ A0 y, A = A0 ++ [y] := by
      rcases List.eq_nil_or_concat A with rfl | ⟨A0, y, rfl⟩
      · cases h
      · exact ⟨A0, y, by simp⟩
    have hl : A0.length = k := by simpa using h
    obtain ⟨s1, s2, s3⟩ := List.pairwise_append.1 hs
    have e1 : A0 ++ [y] ++ x :: B = A0 ++ y :: x :: B := by simp
    have e2 : (A0 ++ y :: x :: B).getD k 0 = y := by rw [List.getD_eq_getElem?_getD, List.getElem?_append_right (by omega)]; simp [hl]
    have e3 : (A0 ++ y :: x :: B).getD (k + 1) 0 = x := by rw [List.getD_eq_getElem?_getD, List.getElem?_append_right (by omega)]; simp [hl]
    rw [e1]
    unfold insF
    rw [e2, e3]
    by_cases hd : D y < D x
    · rw [if_pos hd]
      have := swap1_at A0 B y x
      rw [hl] at this
      rw [this]
      obtain ⟨A', k1, k2, k3, k4⟩ := insF_sorted D k A0 x (y :: B) hl s1
      refine ⟨A' ++ [y], by rw [k1]; simp, by simp [k2], ?_, ?_⟩
      · refine List.pairwise_append.2 ⟨k3, by simp, fun a ha b hb => ?_⟩
        rw [List.mem_singleton.1 hb]
        rcases k4 a ha with rfl | ha
        · omega
        · exact s3 a ha y (by simp)
      · intro z hz
        rcases List.mem_append.1 hz with hz | hz
        · rcases k4 z hz with rfl | hz
          · exact .inl rfl
          · exact .inr (List.mem_append_left _ hz)
        · exact .inr (List.mem_append_right _ hz)
    · rw [if_neg hd]
      refine ⟨A0 ++ [y, x], by simp, by simp [hl], ?_, ?_⟩
      · refine List.pairwise_append.2 ⟨s1, ?_, fun a ha b hb => ?_⟩
        · simp; omega
        · have := s3 a ha y (by simp)
          simp only [List.mem_cons, List.mem_nil_iff, or_false] at hb
          rcases hb with rfl | rfl
          · exact this
          · omega
      · intro z hz
        simp only [List.mem_append, List.mem_cons, List.mem_nil_iff, or_false] at hz ⊢
        rcases hz with hz | rfl | rfl
        · exact .inr (.inl hz)
        · exact .inr (.inr rfl)
        · exact .inl rfl
theorem sortF_sorted (D : Int → Int) : ∀ (f i : Nat) (A B : List Int), A.length = i → B.length = f → Desc D A → Desc D (sortF D f i (A ++ B))
  | 0, i, A, B, h1, h2, h3 => by
    have : B = [] := List.eq_nil_of_length_eq_zero h2
    subst this
    unfold sortF
    simpa using h3
  | f + 1, i, A, B, h1, h2, h3 => by
    match B, h2 with
    | x :: B, h2 =>
      obtain ⟨A', k1, k2, k3, _⟩ := insF_sorted D i A x B h1 h3
      unfold sortF
      rw [k1]
      exact sortF_sorted D f (i + 1) A' B k2 (by simpa using h2) k3
theorem order_desc (g : Gr) (from_ to : Int) : Desc (fun x => wdist g x to) (orderOf g from_ to) := by
  have := sortF_sorted (fun x => wdist g x to) (bfsOf g from_ to).length 0 [] (bfsOf g from_ to) rfl rfl (by simp)
  exact this
end Go.Proofs

set_option linter.unusedSimpArgs false
set_option linter.unusedVariables false
namespace Go.Proofs
open Go.Ab

/-! ### A node segment leads to one state -/
theorem setS_self {g : Gr} {L : List (List Bool)} (h : LOk g L) {s : St} (h0 : 0 ≤ s.at_ ∧ s.at_ < g.n) (h1 : s.n < 6) : inS (setS L s) s = true := by
  obtain ⟨q1, q2⟩ := h.get h0.1 h0.2
  have hl := (List.getElem?_eq_some_iff.1 q1).1
  unfold inS setS
  rw [List.getD_eq_getElem?_getD (l := L.set _ _), List.getElem?_set_self hl, Option.getD_some, List.getD_eq_getElem?_getD, List.getElem?_set_self (by omega), Option.getD_some]
theorem setS_mono {L : List (List Bool)} {s u : St} (h : inS L u = true) : inS (setS L s) u = true := by
  unfold inS at h
  have hlen : u.n < (L.getD u.at_.toNat []).length := by
    apply Decidable.byContradiction
    intro q
    rw [List.getD_eq_getElem?_getD, List.getElem?_eq_none (by omega)] at h
    cases h
  have hlen2 : u.at_.toNat < L.length := by
    apply Decidable.byContradiction
    intro q
    rw [List.getD_eq_getElem?_getD (l := L), List.getElem?_eq_none (by omega)] at hlen
    simp at hlen
  unfold inS setS
  by_cases hq : s.at_.toNat = u.at_.toNat
  · rw [hq, List.getD_eq_getElem?_getD (l := L.set _ _), List.getElem?_set_self hlen2, Option.getD_some]
    by_cases hn : s.n = u.n
    · rw [hn, List.getD_eq_getElem?_getD, List.getElem?_set_self hlen, Option.getD_some]
    · rw [List.getD_eq_getElem?_getD, List.getElem?_set_ne hn, ← List.getD_eq_getElem?_getD]; exact h
  · rw [List.getD_eq_getElem?_getD (l := L.set _ _), List.getElem?_set_ne hq, ← List.getD_eq_getElem?_getD]; exact h
theorem setS_inv {L : List (List Bool)} {s u : St} (h : inS (setS L s) u = true) : inS L u = true ∨ u.at_.toNat = s.at_.toNat := by
  by_cases hq : s.at_.toNat = u.at_.toNat
  · exact .inr hq.symm
  · unfold inS setS at h
    rw [List.getD_eq_getElem?_getD (l := L.set _ _), List.getElem?_set_ne hq, ← List.getD_eq_getElem?_getD] at h
    exact .inl h
theorem inS_lt {g : Gr} {L : List (List Bool)} (h : LOk g L) {u : St} (hu : inS L u = true) : u.n < 6 := by
  unfold inS at hu
  apply Decidable.byContradiction
  intro q
  have : (L.getD u.at_.toNat []).length ≤ 6 := by
    by_cases hl : u.at_.toNat < L.length
    · have h1 : L[u.at_.toNat]? = some L[u.at_.toNat] := List.getElem?_eq_getElem hl
      rw [List.getD_eq_getElem?_getD, h1, Option.getD_some, h.row _ (List.mem_of_getElem? h1)]
      omega
    · rw [List.getD_eq_getElem?_getD, List.getElem?_eq_none (by omega)]; simp
  rw [List.getD_eq_getElem?_getD, List.getElem?_eq_none (by omega)] at hu
  cases hu

structure Grew (g : Gr) (p : List Int) (L L' : List (List Bool)) (N : Int → Prop) : Prop where
  ok : LOk g L'
  mono : ∀ u, inS L u = true → inS L' u = true
  new : ∀ u : St, inS L' u = true → inS L u = true ∨ ∃ x, N x ∧ u.at_.toNat = x.toNat
theorem onF_sound {g : Gr} {p : List Int} (hp : PtsOk g p) {gone : List Bool} {row : List Bool} {node e : Int} : ∀ (f i : Nat) (L L' : List (List Bool)), LOk g L → onF g p gone row node e f i L = (true, L') →
    Grew g p L L' (fun x => x = (g.ends e).2.1) ∧ ∀ j, i ≤ j → j < i + f → row.getD j false = true → ∃ t, stepW g p gone ⟨node, j⟩ e = some t ∧ inS L' t = true
  | 0, i, L, L', hL, h => by
    unfold onF at h
    injection h with h1 h2
    subst h2
    exact ⟨⟨hL, fun _ h => h, fun _ h => .inl h⟩, fun j h1 h2 => by omega⟩
  | f + 1, i, L, L', hL, h => by
    unfold onF at h
    by_cases hr : row.getD i false = true
    · rw [if_pos hr] at h
      cases hs : stepW g p gone ⟨node, i⟩ e with
      | none => rw [hs] at h; cases h
      | some t =>
        rw [hs] at h
        have ht := step_ok_range hp hs
        have hn : t.n < 6 := by have := hp.len; omega
        have hset := hL.set ht.1.1 ht.1.2
        obtain ⟨k1, k2⟩ := onF_sound hp f (i + 1) _ L' hset h
        refine ⟨⟨k1.ok, fun u hu => k1.mono u (setS_mono hu), fun u hu => ?_⟩, fun j h1 h2 h3 => ?_⟩
        · rcases k1.new u hu with hu | hu
          · rcases setS_inv hu with hu | hu
            · exact .inl hu
            · exact .inr ⟨_, rfl, by rw [hu, ht.2.2.2.1]⟩
          · exact .inr hu
        · by_cases hj : j = i
          · subst hj
            exact ⟨t, hs, k1.mono t (setS_self hL ht.1 hn)⟩
          · exact k2 j (by omega) (by omega) h3
    · rw [if_neg hr] at h
      obtain ⟨k1, k2⟩ := onF_sound hp f (i + 1) _ L' hL h
      exact ⟨k1, fun j h1 h2 h3 => by
        by_cases hj : j = i
        · subst hj; exact absurd h3 hr
        · exact k2 j (by omega) (by omega) h3⟩
theorem edgesF_sound {g : Gr} {p : List Int} (hp : PtsOk g p) {gone : List Bool} {node : Int} : ∀ (E : List Int) (L L' : List (List Bool)), LOk g L → edgesF g p gone node E L = (true, L') →
    Grew g p L L' (fun x => ∃ e ∈ E, x = (g.ends e).2.1) ∧ ∀ j, inS L ⟨node, j⟩ = true → ∀ e ∈ E, ∃ t, stepW g p gone ⟨node, j⟩ e = some t ∧ inS L' t = true
  | [], L, L', hL, h => by
    unfold edgesF at h
    injection h with h1 h2
    subst h2
    exact ⟨⟨hL, fun _ h => h, fun _ h => .inl h⟩, fun j h1 e he => by cases he⟩
  | e :: r, L, L', hL, h => by
    unfold edgesF at h
    by_cases h1 : (onS g p gone L node e).1 = true
    · rw [if_pos h1] at h
      have e1 : onF g p gone (L.getD node.toNat []) node e 6 0 L = (true, (onS g p gone L node e).2) := Prod.ext h1 rfl
      obtain ⟨a1, a2⟩ := onF_sound hp 6 0 L _ hL e1
      obtain ⟨k1, k2⟩ := edgesF_sound hp r _ L' a1.ok h
      refine ⟨⟨k1.ok, fun u hu => k1.mono u (a1.mono u hu), fun u hu => ?_⟩, fun j hj x hx => ?_⟩
      · rcases k1.new u hu with hu | ⟨y, ⟨e', he', rfl⟩, hy⟩
        · rcases a1.new u hu with hu | ⟨y, rfl, hy⟩
          · exact .inl hu
          · exact .inr ⟨_, ⟨e, by simp, rfl⟩, hy⟩
        · exact .inr ⟨_, ⟨e', by simp [he'], rfl⟩, hy⟩
      · rcases List.mem_cons.1 hx with rfl | hx
        · obtain ⟨t, t1, t2⟩ := a2 j (by omega) (by have := inS_lt hL hj; simp only at this; omega) hj
          exact ⟨t, t1, k1.mono t t2⟩
        · exact k2 j (a1.mono _ hj) x hx
    · rw [if_neg h1] at h; cases h
theorem nodesF_sound {g : Gr} {p : List Int} (hp : PtsOk g p) {gone : List Bool} {to : Int} : ∀ (N : List Int) (L L' : List (List Bool)), LOk g L → (∀ x ∈ N, 0 ≤ x ∧ x < g.n) → Desc (fun x => wdist g x to) N → nodesF g p gone to N L = (true, L') →
    Grew g p L L' (fun x => ∃ n ∈ N, ∃ e ∈ wnextOf g n to, x = (g.ends e).2.1) ∧ ∀ n ∈ N, ∀ j, inS L' ⟨n, j⟩ = true → ∀ e ∈ wnextOf g n to, ∃ t, stepW g p gone ⟨n, j⟩ e = some t ∧ inS L' t = true
  | [], L, L', hL, _, _, h => by
    unfold nodesF at h
    injection h with h1 h2
    subst h2
    exact ⟨⟨hL, fun _ h => h, fun _ h => .inl h⟩, fun n hn => by cases hn⟩
  | n :: r, L, L', hL, hN, hD, h => by
    unfold nodesF at h
    by_cases h1 : (edgesF g p gone n (wnextOf g n to) L).1 = true
    · rw [if_pos h1] at h
      have e1 : edgesF g p gone n (wnextOf g n to) L = (true, (edgesF g p gone n (wnextOf g n to) L).2) := Prod.ext h1 rfl
      obtain ⟨a1, a2⟩ := edgesF_sound hp _ L _ hL e1
      replace hD := List.pairwise_cons.1 hD
      obtain ⟨k1, k2⟩ := nodesF_sound hp r _ L' a1.ok (fun x hx => hN x (by simp [hx])) hD.2 h
      have hn := hN n (by simp)
      refine ⟨⟨k1.ok, fun u hu => k1.mono u (a1.mono u hu), fun u hu => ?_⟩, fun m hm j hj e he => ?_⟩
      · rcases k1.new u hu with hu | ⟨y, ⟨n', hn', e', he', rfl⟩, hy⟩
        · rcases a1.new u hu with hu | ⟨y, ⟨e', he', rfl⟩, hy⟩
          · exact .inl hu
          · exact .inr ⟨_, ⟨n, by simp, e', he', rfl⟩, hy⟩
        · exact .inr ⟨_, ⟨n', by simp [hn'], e', he', rfl⟩, hy⟩
      · rcases List.mem_cons.1 hm with rfl | hm
        · have far : ∀ x, (0 ≤ x ∧ x < g.n) → wdist g x to < wdist g m to → ¬ m.toNat = x.toNat := fun x hx hw q => by
            have : m = x := by omega
            subst this; omega
          have j1 : inS (edgesF g p gone m (wnextOf g m to) L).2 ⟨m, j⟩ = true := by
            rcases k1.new _ hj with hu | ⟨y, ⟨n', hn', e', he', rfl⟩, hy⟩
            · exact hu
            · have f1 := wnext_facts hp.ok he'
              have f2 : wdist g n' to ≤ wdist g m to := hD.1 n' hn'
              exact absurd hy (far _ (mem_wnext hp.ok he').2.2 (by omega))
          have j2 : inS L ⟨m, j⟩ = true := by
            rcases a1.new _ j1 with hu | ⟨y, ⟨e', he', rfl⟩, hy⟩
            · exact hu
            · exact absurd hy (far _ (mem_wnext hp.ok he').2.2 (wnext_facts hp.ok he').2)
          obtain ⟨t, t1, t2⟩ := a2 j j2 e he
          exact ⟨t, t1, k1.mono t t2⟩
        · exact k2 m hm j hj e he
    · rw [if_neg h1] at h; cases h

theorem only6 : ∀ b0 b1 b2 b3 b4 b5 : Bool, (onlyS [b0, b1, b2, b3, b4, b5]).2 = true → ∀ i < 6, [b0, b1, b2, b3, b4, b5].getD i false = true → i = (onlyS [b0, b1, b2, b3, b4, b5]).1 := by decide +kernel
theorem only_spec {row : List Bool} (hl : row.length = 6) (h : (onlyS row).2 = true) {i : Nat} (hi : row.getD i false = true) : i = (onlyS row).1 := by
  have hi6 : i < 6 := by
    apply Decidable.byContradiction
    intro q
    rw [List.getD_eq_getElem?_getD, List.getElem?_eq_none (by omega)] at hi
    cases hi
  match row, hl with
  | [b0, b1, b2, b3, b4, b5], _ => exact only6 b0 b1 b2 b3 b4 b5 h i hi6 hi

/-- All ways to a node stay inside and end in one state. -/
structure Leads (g : Gr) (p : List Int) (gone : List Bool) (to : Int) (T : St → Prop) (G : St → Prop) : Prop where
  far : ∀ u, T u → 0 ≤ wdist g u.at_ to
  next : ∀ u, T u → u.at_ ≠ to → ∀ e ∈ wnextOf g u.at_ to, ∃ t, stepW g p gone u e = some t ∧ T t
  end_ : ∀ u, T u → u.at_ = to → G u
theorem node_sound {g : Gr} {p : List Int} (hp : PtsOk g p) {gone : List Bool} {s t : St} {to : Int} (h : nodeW g p gone s to = some t) : ∃ T, T s ∧ Leads g p gone to T (fun u => u = t) := by
  unfold nodeW at h
  split at h
  · cases h
  · rename_i h1
    have n1 : s.at_ ≠ to := fun q => h1 (.inl q)
    have n2 : ¬ wdist g s.at_ to < 0 := fun q => h1 (.inr (.inl q))
    have n3 : ¬ 6 ≤ s.n := fun q => h1 (.inr (.inr q))
    split at h
    · rename_i h2
      injection h with h
      subst h
      have hr := wdist_rng n2
      have hL0 : LOk g (List.replicate g.n.toNat six0) := ⟨by simp, fun r hr => by rw [(List.mem_replicate.1 hr).2]; rfl⟩
      have hL1 : LOk g (sets0 g s) := hL0.set hr.1.1 hr.1.2
      have e1 : nodesF g p gone to (orderOf g s.at_ to) (sets0 g s) = (true, (nodesF g p gone to (orderOf g s.at_ to) (sets0 g s)).2) := Prod.ext h2.1 rfl
      obtain ⟨k1, k2⟩ := nodesF_sound hp _ _ _ hL1 (order_rng hp.ok hr.1) (order_desc g s.at_ to) e1
      obtain ⟨c1, c2⟩ := bfs_closed hp.ok (to := to) hr.1
      generalize (nodesF g p gone to (orderOf g s.at_ to) (sets0 g s)).2 = L' at *
      refine ⟨fun u => inS L' u = true ∧ u.at_ ∈ orderOf g s.at_ to ∧ 0 ≤ wdist g u.at_ to, ⟨k1.mono s (setS_self hL0 hr.1 (by omega)), c1, by omega⟩, ⟨fun u hu => hu.2.2, fun u hu hne e he => ?_, fun u hu hut => ?_⟩⟩
      · obtain ⟨t, t1, t2⟩ := k2 u.at_ hu.2.1 u.n hu.1 e he
        have ht := step_ok_range hp t1
        exact ⟨t, t1, t2, by rw [← ht.2.2.2.1]; exact c2 _ hu.2.1 e he, by rw [← ht.2.2.2.1]; exact (wnext_facts hp.ok he).1⟩
      · obtain ⟨ua, un⟩ := u
        simp only at hut
        subst hut
        have hi : (L'.getD ua.toNat []).getD un false = true := hu.1
        have := only_spec (k1.ok.get hr.2.1 hr.2.2).2 h2.2 hi
        rw [← this]
    · cases h
end Go.Proofs

set_option linter.unusedSimpArgs false
set_option linter.unusedVariables false
namespace Go.Proofs
open Go.Ab

/-! ### A list that leads -/
def follow (x : Cx) : List Sg → St → Prop
  | [], s => s = x.goal
  | a :: r, s => (a.e = true ∧ ∃ t, stepW x.g x.p x.gone s a.t = some t ∧ follow x r t) ∨
    (a.e = false ∧ (0 ≤ a.t ∧ a.t < x.g.n) ∧ ∃ T : St → Prop, T s ∧ Leads x.g x.p x.gone a.t T (follow x r))
theorem Leads.mono {g : Gr} {p : List Int} {gone : List Bool} {to : Int} {T G G' : St → Prop} (h : Leads g p gone to T G) (hG : ∀ u, G u → G' u) : Leads g p gone to T G' := ⟨h.far, h.next, fun u a b => hG u (h.end_ u a b)⟩
theorem follow_seg {x : Cx} (hx : x.Ok) {s t : St} {a : Sg} {r : List Sg} (h : x.seg s a = some t) (hf : follow x r t) : follow x (a :: r) s := by
  unfold Cx.seg segW at h
  by_cases he : a.e = true
  · rw [if_pos he] at h
    exact .inl ⟨he, t, h, hf⟩
  · rw [if_neg he] at h
    have hr : 0 ≤ a.t ∧ a.t < x.g.n := by
      unfold nodeW at h
      split at h
      · cases h
      · rename_i h1
        exact (wdist_rng (fun q => h1 (.inr (.inl q)))).2
    obtain ⟨T, h1, h2⟩ := node_sound hx.pts h
    exact .inr ⟨by simpa using he, hr, T, h1, h2.mono fun u hu => by rw [hu]; exact hf⟩
theorem Cx.leftL_ne (x : Cx) : ∀ R, R ≠ [] → ∃ h t, x.leftL R = h :: t
  | [], h => absurd rfl h
  | [r], _ => ⟨_, _, rfl⟩
  | r :: q :: R, _ => ⟨_, _, rfl⟩
theorem pick_follow {x : Cx} (hx : x.Ok) : ∀ R : List (List St), R ≠ [] → ∀ s ∈ (x.leftL R).headD [], follow x (x.pick ((x.leftL R).drop 1) s) s
  | [], h => absurd rfl h
  | [r], _ => fun s hs => by
    have : s = x.goal := by simpa [Cx.leftL] using hs
    exact this
  | r :: q :: R, _ => fun s hs => by
    have ih := pick_follow hx (q :: R) (by simp)
    obtain ⟨h, t, ht⟩ := x.leftL_ne (q :: R) (by simp)
    have e1 : x.leftL (r :: q :: R) = (r.filter (x.hit ((x.leftL (q :: R)).headD []))) :: x.leftL (q :: R) := rfl
    rw [e1] at hs ⊢
    rw [ht] at ih hs ⊢
    have hs' : s ∈ r.filter (x.hit h) := hs
    have hh := (List.mem_filter.1 hs').2
    show follow x (x.pick (h :: t) s) s
    unfold Cx.pick
    cases hf : (x.leads s).find? (fun l => decide (l.to ∈ h)) with
    | none =>
      unfold Cx.hit at hh
      rw [List.any_eq_true] at hh
      obtain ⟨l, l1, l2⟩ := hh
      exact absurd l2 (List.find?_eq_none.1 hf l l1)
    | some l =>
      have hm := List.mem_of_find?_eq_some hf
      have hp := List.find?_some hf
      have hp' : l.to ∈ h := of_decide_eq_true hp
      exact follow_seg hx (lead_valid hx hm).2 (ih l.to hp')

def Linked (x : Cx) : List (List St) → Prop
  | [] => True
  | [_] => True
  | r :: q :: R => (∀ t ∈ q, ∃ s ∈ r, ∃ l ∈ x.leads s, l.to = t) ∧ Linked x (q :: R)
theorem linked_snoc {x : Cx} {c n : List St} (hn : ∀ t ∈ n, ∃ s ∈ c, ∃ l ∈ x.leads s, l.to = t) : ∀ A : List (List St), Linked x (A ++ [c]) → Linked x (A ++ [c] ++ [n])
  | [], _ => ⟨hn, trivial⟩
  | [a], h => ⟨h.1, hn, trivial⟩
  | a :: b :: A, h => ⟨h.1, linked_snoc hn (b :: A) h.2⟩
theorem seen_pred (x : Cx) : ∀ (l : List Ld) (a : List St × List St), (∀ t ∈ (l.foldl (fun a l => seenStep a l.to) a).2, t ∈ a.2 ∨ ∃ q ∈ l, q.to = t) ∧ ∃ z, (l.foldl (fun a l => seenStep a l.to) a) = (a.1 ++ z, a.2 ++ z)
  | [], a => ⟨fun t ht => .inl ht, [], by simp⟩
  | q :: r, a => by
    obtain ⟨h1, z, h2⟩ := seen_pred x r (seenStep a q.to)
    have e1 : ∃ z, seenStep a q.to = (a.1 ++ z, a.2 ++ z) ∧ ∀ t ∈ z, t = q.to := by
      unfold seenStep
      split
      · exact ⟨[], by simp, by simp⟩
      · exact ⟨[q.to], rfl, by simp⟩
    obtain ⟨z', e2, e3⟩ := e1
    refine ⟨fun t ht => ?_, z' ++ z, ?_⟩
    · rcases h1 t ht with h | ⟨q', k1, k2⟩
      · rw [e2] at h
        rcases List.mem_append.1 h with h | h
        · exact .inl h
        · exact .inr ⟨q, by simp, (e3 t h).symm⟩
      · exact .inr ⟨q', by simp [k1], k2⟩
    · rw [List.foldl_cons, h2, e2]
      simp
theorem round_pred (x : Cx) : ∀ (cur : List St) (a : List St × List St), (∀ t ∈ (cur.foldl x.roundIn a).2, t ∈ a.2 ∨ ∃ s ∈ cur, ∃ l ∈ x.leads s, l.to = t) ∧ ∃ z, cur.foldl x.roundIn a = (a.1 ++ z, a.2 ++ z)
  | [], a => ⟨fun t ht => .inl ht, [], by simp⟩
  | s :: r, a => by
    obtain ⟨h1, z, h2⟩ := round_pred x r (x.roundIn a s)
    obtain ⟨k1, z', k2⟩ := seen_pred x (x.leads s) a
    refine ⟨fun t ht => ?_, z' ++ z, ?_⟩
    · rcases h1 t ht with h | ⟨s', m1, m2⟩
      · rcases k1 t h with h | ⟨l, l1, l2⟩
        · exact .inl h
        · exact .inr ⟨s, by simp, l, l1, l2⟩
      · exact .inr ⟨s', by simp [m1], m2⟩
    · rw [List.foldl_cons, h2]
      have : x.roundIn a s = (a.1 ++ z', a.2 ++ z') := k2
      rw [this]
      simp
theorem roundsF_chain {x : Cx} : ∀ (k : Nat) (seen : List St) (A : List (List St)) (cur : List St) (R : List (List St)), x.roundsF k seen (A ++ [cur]) cur = some R → Linked x (A ++ [cur]) → (x.goal ∈ seen → x.goal ∈ cur) →
    ∃ A' c, R = A' ++ [c] ∧ Linked x R ∧ x.goal ∈ c ∧ R.headD [] = (A ++ [cur]).headD [] := by
  intro k
  induction k with
  | zero =>
    intro seen A cur R h hl hg
    unfold Cx.roundsF at h
    split at h
    · rename_i h1
      injection h with h; subst h
      exact ⟨A, cur, rfl, hl, hg h1, rfl⟩
    · cases h
  | succ k ih =>
    intro seen A cur R h hl hg
    unfold Cx.roundsF at h
    split at h
    · rename_i h1
      injection h with h; subst h
      exact ⟨A, cur, rfl, hl, hg h1, rfl⟩
    · rename_i h1
      obtain ⟨p1, z, p2⟩ := round_pred x cur (seen, [])
      have e1 : x.round seen cur = (seen ++ z, z) := by
        have : x.round seen cur = (seen ++ z, [] ++ z) := p2
        simpa using this
      rw [e1] at h
      have p3 : ∀ t ∈ z, ∃ s ∈ cur, ∃ l ∈ x.leads s, l.to = t := fun t ht => by
        have e2 : (cur.foldl x.roundIn (seen, [])).2 = z := by rw [p2]; simp
        rcases p1 t (by rw [e2]; exact ht) with h | h
        · cases h
        · exact h
      obtain ⟨A', c, q1, q2, q3, q4⟩ := ih _ (A ++ [cur]) z R h (linked_snoc p3 A hl) (fun hq => by
        rcases List.mem_append.1 hq with hq | hq
        · exact absurd hq h1
        · exact hq)
      refine ⟨A', c, q1, q2, q3, ?_⟩
      rw [q4]
      cases A <;> simp
theorem left_ne {x : Cx} {c : List St} (hc : x.goal ∈ c) : ∀ A : List (List St), Linked x (A ++ [c]) → ∃ s ∈ (x.leftL (A ++ [c])).headD [], s ∈ (A ++ [c]).headD []
  | [], _ => ⟨x.goal, by simp [Cx.leftL], hc⟩
  | [r], h => by
    obtain ⟨s, s1, l, l1, l2⟩ := h.1 x.goal hc
    refine ⟨s, ?_, s1⟩
    show s ∈ r.filter (x.hit [x.goal])
    exact List.mem_filter.2 ⟨s1, List.any_eq_true.2 ⟨l, l1, by simp [l2]⟩⟩
  | r :: q :: A, h => by
    obtain ⟨t, t1, t2⟩ := left_ne hc (q :: A) h.2
    obtain ⟨s, s1, l, l1, l2⟩ := h.1 t t2
    refine ⟨s, ?_, s1⟩
    show s ∈ r.filter (x.hit ((x.leftL (q :: A ++ [c])).headD []))
    exact List.mem_filter.2 ⟨s1, List.any_eq_true.2 ⟨l, l1, by rw [l2]; exact decide_eq_true t1⟩⟩
theorem list_follow {g : Gr} {w : Wt} {down : List Bool} {d : Int} {L : List Sg} (h : listOf g w down d = (L, 0)) : (costOf g w down).2 = 0 ∧ follow (cxOf g w down) L w.start := by
  unfold listOf at h
  split at h
  case isFalse h0 => exact absurd (congrArg (·.2) h) h0
  rename_i h0
  refine ⟨h0, ?_⟩
  have hr := cost_right h0
  have hxok : (cxOf g w down).Ok := ⟨ptsOk_of hr⟩
  split at h
  · rename_i R hR
    injection h with h _
    subst h
    obtain ⟨A', c, q1, q2, q3, q4⟩ := roundsF_chain (x := cxOf g w down) _ _ [] _ _ hR trivial (fun h => h)
    have hne : R ≠ [] := by rw [q1]; simp
    have hl := left_ne q3 A' (by rw [← q1]; exact q2)
    rw [← q1, q4] at hl
    obtain ⟨s, s1, s2⟩ := hl
    have : s = w.start := by simpa using s2
    subst this
    exact pick_follow hxok R hne _ s1
  · cases (congrArg (·.2) h : (9 : Int) = 0)
end Go.Proofs

set_option linter.unusedSimpArgs false
set_option linter.unusedVariables false
namespace Go.Proofs
open Go.Ab

/-! ### Leading lists are walked -/
def rankAt (g : Gr) (d : List Int) (v : Int) : Nat := (List.range g.n.toNat).countP fun (u : Nat) => decide (0 ≤ at0 d u ∧ at0 d u < at0 d v)
theorem rank_le (g : Gr) (d : List Int) (v : Int) : rankAt g d v ≤ g.n.toNat := by
  unfold rankAt
  have := List.countP_le_length (p := fun (u : Nat) => decide (0 ≤ at0 d u ∧ at0 d u < at0 d v)) (l := List.range g.n.toNat)
  simpa using this
theorem countP_lt {α : Type} {p q : α → Bool} : ∀ {l : List α}, (∀ x ∈ l, p x = true → q x = true) → (∃ x ∈ l, q x = true ∧ p x = false) → l.countP p < l.countP q
  | [], _, h => by obtain ⟨x, hx, _⟩ := h; cases hx
  | a :: r, h1, h2 => by
    have hle : r.countP p ≤ r.countP q := List.countP_mono_left fun x hx => h1 x (by simp [hx])
    rw [List.countP_cons, List.countP_cons]
    obtain ⟨x, hx, h3, h4⟩ := h2
    rcases List.mem_cons.1 hx with rfl | hx
    · simp only [h3, h4, if_true]
      simp
      omega
    · have := countP_lt (p := p) (q := q) (l := r) (fun y hy => h1 y (by simp [hy])) ⟨x, hx, h3, h4⟩
      have h5 := h1 a (by simp)
      cases hp : p a with
      | false => cases q a <;> simp <;> omega
      | true => rw [h5 hp]; simp; omega
theorem rank_lt {g : Gr} {d : List Int} {v v' : Int} (hv : 0 ≤ v' ∧ v' < g.n) (h1 : 0 ≤ at0 d v') (h2 : at0 d v' < at0 d v) : rankAt g d v' < rankAt g d v := by
  unfold rankAt
  refine countP_lt (fun x _ h => ?_) ⟨v'.toNat, by rw [List.mem_range]; omega, ?_, ?_⟩
  · have := of_decide_eq_true h
    exact decide_eq_true ⟨this.1, by omega⟩
  · have e : ((v'.toNat : Nat) : Int) = v' := by omega
    rw [e]
    exact decide_eq_true ⟨h1, h2⟩
  · have e : ((v'.toNat : Nat) : Int) = v' := by omega
    rw [e]
    exact decide_eq_false (fun q => by omega)
/-- How many hops are left at most. -/
def Cx.left (x : Cx) (s : St) : Nat := (x.p.length - s.n) * (x.g.n.toNat + 1) + rankAt x.g (spfFrom x.g x.gone (x.p.getD (s.n + 1) 0)) s.at_
theorem step_facts {x : Cx} (hx : x.Ok) {s t : St} {e : Int} (h : stepW x.g x.p x.gone s e = some t) : t.at_ = (x.g.ends e).2.1 ∧ (x.g.ends e).1 = s.at_ ∧ isUp x.gone e = true ∧ (0 ≤ e ∧ e < 2 * (x.g.ls.length : Int)) ∧ s.n + 1 < x.p.length ∧ x.left t < x.left s := by
  have hr := step_ok_range hx.pts h
  unfold stepW at h
  split at h
  · rename_i hh
    injection h with h
    have hp := hx.pts.range hh.1
    have hm := (mem_next hx.pts.ok hp).1 hh.2.2.2
    refine ⟨hr.2.2.2.1.symm, hh.2.2.1, hm.2.2.2.1, hr.2.2.2.2, hh.1, ?_⟩
    have hme := x.g.metric_of hx.pts.ok hr.2.2.2.2.1 hr.2.2.2.2.2
    have hn : s.n ≤ t.n := by rw [← h]; exact le_comeN _ _ _
    have hrk := rank_le x.g (spfFrom x.g x.gone (x.p.getD (t.n + 1) 0)) t.at_
    unfold Cx.left
    by_cases hq : t.n = s.n
    · rw [hq]
      have := rank_lt (g := x.g) (d := spfFrom x.g x.gone (x.p.getD (s.n + 1) 0)) (v := s.at_) (v' := t.at_) hr.1 (by rw [← hr.2.2.2.1]; exact hm.2.2.2.2.1) (by rw [← hr.2.2.2.1]; omega)
      omega
    · have h1 : x.p.length - s.n = (x.p.length - t.n) + (t.n - s.n) := by omega
      have h2 : 1 * (x.g.n.toNat + 1) ≤ (t.n - s.n) * (x.g.n.toNat + 1) := Nat.mul_le_mul_right _ (by omega)
      rw [h1, Nat.add_mul]
      omega
  · cases h
theorem left_le {x : Cx} (s : St) : x.left s ≤ x.p.length * (x.g.n.toNat + 1) + x.g.n.toNat := by
  unfold Cx.left
  have h1 := rank_le x.g (spfFrom x.g x.gone (x.p.getD (s.n + 1) 0)) s.at_
  have h2 : (x.p.length - s.n) * (x.g.n.toNat + 1) ≤ x.p.length * (x.g.n.toNat + 1) := Nat.mul_le_mul_right _ (by omega)
  omega
theorem gone_up {g : Gr} {w : Wt} {down : List Bool} {e : Int} (h0 : 0 ≤ e) (h1 : e < 2 * (g.ls.length : Int)) (h : isUp (goneAll g w down) e = true) : isUp down e = true := by
  have hl : (goneAll g w down).length = g.ls.length := by simp [goneAll]
  have e1 : isDown (goneAll g w down) (e / 2) = false := by rw [up_notdown h0, h]; rfl
  have e2 : isDown down (e / 2) = false := by
    unfold isDown at e1
    have c1 : 0 ≤ e / 2 := by omega
    have c2 : e / 2 < ((goneAll g w down).length : Int) := by rw [hl]; omega
    rw [decide_eq_true c1, decide_eq_true c2, Bool.true_and, Bool.true_and] at e1
    unfold goneAll at e1
    rw [List.getD_eq_getElem?_getD, List.getElem?_mapIdx, List.getElem?_eq_getElem (show (e / 2).toNat < g.ls.length by omega)] at e1
    simp only [Option.map_some, Option.getD_some, goneLk, Bool.or_eq_false_iff] at e1
    have := e1.1.1.1.1
    have e3 : (((e / 2).toNat : Nat) : Int) = e / 2 := by omega
    rw [e3] at this
    exact this
  rw [up_notdown h0] at e2
  simpa using e2

theorem hop_node {w : Pw} {a t : Int} (h : wnextOf w.g a t ≠ []) : ∃ e, hopOf w ⟨false, t⟩ a = (e, true) ∧ e ∈ wnextOf w.g a t := by
  have hl : 0 < (wnextOf w.g a t).length := List.length_pos_iff.2 h
  have hp := pickI_lt w.hash hl
  have hlt : pickI w.hash (wnextOf w.g a t).length < (wnextOf w.g a t).length := by unfold pickI; omega
  have eh : hopOf w ⟨false, t⟩ a = match (wnextOf w.g a t)[pickI w.hash (wnextOf w.g a t).length]? with
      | some e => (e, true)
      | none => (0, false) := rfl
  rw [eh, List.getElem?_eq_getElem hlt]
  exact ⟨_, rfl, List.getElem_mem hlt⟩

/-- What a step does where the list leads. -/
theorem follow_step {x : Cx} (hx : x.Ok) {w : Pw} (hg : w.g = x.g) {s : Pk} {a : Sg} {L r : List Sg} {st : St} (hl : s.l = a :: (L ++ r)) (hf : follow x (a :: L) st) (hat : st.at_ = s.at_) (hes : s.es.length < 255) :
    (stepOf w (arSpec w) s = (0, { s with l := L ++ r }) ∧ follow x L st) ∨
    (∃ e t L', stepW x.g x.p x.gone st e = some t ∧ hopOf w a s.at_ = (e, true) ∧ labelBad w.g a s.at_ = false ∧ follow x L' t ∧ (crossed w s a (L ++ r) e).l = L' ++ r ∧ t.at_ = (crossed w s a (L ++ r) e).at_ ∧
      (isUp w.down e = true → stepOf w (arSpec w) s = (0, crossed w s a (L ++ r) e)) ∧ (isUp w.down e = false → w.strict = true → stepOf w (arSpec w) s = (3, s))) := by
  have key : ∀ e, ¬ (a.e = false ∧ a.t = s.at_) → labelBad w.g a s.at_ = false → hopOf w a s.at_ = (e, true) →
      (isUp w.down e = true → stepOf w (arSpec w) s = (0, crossed w s a (L ++ r) e)) ∧ (isUp w.down e = false → w.strict = true → stepOf w (arSpec w) s = (3, s)) := by
    intro e h1 h2 h3
    have := step_is w s
    generalize stepOf w (arSpec w) s = q at *
    cases this with
    | done h => rw [hl] at h; cases h
    | far h h' => omega
    | bad y z h h' => rw [hl] at h; cases h; rw [h2] at h'; cases h'
    | noway y z h h4 h5 h6 => rw [hl] at h; cases h; rw [h3] at h6; cases h6
    | drop y z h h4 h5 => rw [hl] at h; cases h; exact absurd ⟨h4, h5⟩ h1
    | cross y z e' h h4 h5 h6 h7 h8 =>
      rw [hl] at h; cases h
      rw [h3] at h7; cases h7
      exact ⟨fun _ => rfl, fun h => by rw [h8] at h; cases h⟩
    | stuck y z e' h h4 h5 h6 h7 h8 =>
      rw [hl] at h; cases h
      rw [h3] at h7; cases h7
      exact ⟨fun h => (by rw [h8] at h; cases h), fun _ _ => rfl⟩
    | around y z L2 e' h h4 h5 h6 h7 h8 h9 =>
      rw [hl] at h; cases h
      rw [h3] at h7; cases h7
      exact ⟨fun h => (by rw [h8] at h; cases h), fun _ h => (by rw [h9] at h; cases h)⟩
  obtain ⟨ae, at_⟩ := a
  rcases hf with ⟨he, t, h1, h2⟩ | ⟨he, hr, T, h1, h2⟩
  · simp only at he h1
    subst he
    have hs := step_facts hx h1
    have hlb : labelBad w.g ⟨true, at_⟩ s.at_ = false := by
      simp [labelBad, Gr.isSeg, hg, hs.2.2.2.1.1, hs.2.2.2.1.2, hs.2.1, hat]
    obtain ⟨k1, k2⟩ := key at_ (fun q => by cases q.1) hlb rfl
    exact .inr ⟨at_, t, L, h1, rfl, hlb, h2, rfl, by rw [hs.1]; simp [crossed, hg], k1, k2⟩
  · simp only at he hr h1 h2
    subst he
    by_cases hq : st.at_ = at_
    · refine .inl ⟨?_, h2.end_ st h1 hq⟩
      have := step_is w s
      have hd : at_ = s.at_ := by rw [← hq, hat]
      have hlb : labelBad w.g ⟨false, at_⟩ s.at_ = false := by
        simp [labelBad, Gr.isSeg, hg, hr.1, hr.2]
      generalize stepOf w (arSpec w) s = q at *
      cases this with
      | done h => rw [hl] at h; cases h
      | far h h' => omega
      | bad y z h h' => rw [hl] at h; cases h; rw [hlb] at h'; cases h'
      | noway y z h h4 h5 h6 => rw [hl] at h; cases h; exact absurd ⟨rfl, hd⟩ h4
      | drop y z h h4 h5 => rw [hl] at h; cases h; rfl
      | cross y z e' h h4 h5 => rw [hl] at h; cases h; exact absurd ⟨rfl, hd⟩ h5
      | stuck y z e' h h4 h5 => rw [hl] at h; cases h; exact absurd ⟨rfl, hd⟩ h5
      | around y z L2 e' h h4 h5 => rw [hl] at h; cases h; exact absurd ⟨rfl, hd⟩ h5
    · have hfar := h2.far st h1
      have hne : wnextOf w.g s.at_ at_ ≠ [] := by rw [hg, ← hat]; exact wnext_ne hx.pts.ok hfar hq
      obtain ⟨e, e1, e2⟩ := hop_node hne
      rw [hg, ← hat] at e2
      obtain ⟨t, t1, t2⟩ := h2.next st h1 hq e e2
      have hs := step_facts hx t1
      have hlb : labelBad w.g ⟨false, at_⟩ s.at_ = false := by
        simp [labelBad, Gr.isSeg, hg, hr.1, hr.2]
      obtain ⟨k1, k2⟩ := key e (fun q => hq (hat.trans q.2.symm)) hlb e1
      refine .inr ⟨e, t, ⟨false, at_⟩ :: L, t1, e1, hlb, .inr ⟨rfl, hr, T, t2, h2⟩, rfl, by rw [hs.1]; simp [crossed, hg], k1, k2⟩
end Go.Proofs

set_option linter.unusedSimpArgs false
set_option linter.unusedVariables false
namespace Go.Proofs
open Go.Ab

/-! ### Strict walks -/
theorem hasF_snoc {g : Gr} {p : List Int} {gone : List Bool} {e : Int} : ∀ {es : List Int} {s t u : St}, hasF g p gone es s = some t → stepW g p gone t e = some u → hasF g p gone (es ++ [e]) s = some u
  | [], s, t, u, h, h2 => by
    have : s = t := by simpa [hasF] using h
    subst this
    simp [hasF, h2]
  | x :: r, s, t, u, h, h2 => by
    rw [List.cons_append, hasF_cons]
    rw [hasF_cons] at h
    cases hs : stepW g p gone s x with
    | none => rw [hs] at h; cases h
    | some v =>
      rw [hs] at h
      exact hasF_snoc h h2
structure SK (x : Cx) (s0 : St) (N : Nat) (s : Pk) : Prop where
  go : ∃ st, follow x s.l st ∧ st.at_ = s.at_ ∧ hasF x.g x.p x.gone s.es s0 = some st ∧ s.es.length + x.left st ≤ x.left s0
  ar : s.ar = 0
  most : s.most = N
structure SC (x : Cx) (s0 : St) (N : Nat) (down : List Bool) (s : Pk) : Prop where
  ar : s.ar = 0
  most : s.most = N
  go : ∃ st, hasF x.g x.p x.gone s.es s0 = some st ∧ st.at_ = s.at_ ∧ ((s.fin = 1 ∧ st = x.goal) ∨ (s.fin = 3 ∧ ∃ e t, stepW x.g x.p x.gone st e = some t ∧ isUp down e = false))
theorem sk_step {x : Cx} (hx : x.Ok) {w : Pw} (hg : w.g = x.g) (hst : w.strict = true) {s0 : St} (hN : x.left s0 < 255) {N : Nat} {s : Pk} (h : SK x s0 N s) :
    ((stepOf w (arSpec w) s).1 = 0 → SK x s0 N (stepOf w (arSpec w) s).2) ∧ ((stepOf w (arSpec w) s).1 ≠ 0 → SC x s0 N w.down { (stepOf w (arSpec w) s).2 with fin := (stepOf w (arSpec w) s).1 }) := by
  obtain ⟨st, h1, h2, h3, h4⟩ := h.go
  cases hl : s.l with
  | nil =>
    have hs : stepOf w (arSpec w) s = (1, s) := by unfold stepOf; rw [hl]
    rw [hl] at h1
    rw [hs]
    exact ⟨fun q => (by cases q), fun _ => ⟨h.ar, h.most, st, h3, h2, .inl ⟨rfl, h1⟩⟩⟩
  | cons a L =>
    rw [hl] at h1
    rcases follow_step hx hg (L := L) (r := []) (by rw [hl]; simp) h1 h2 (by omega) with ⟨k1, k2⟩ | ⟨e, t, L', k1, k2, k3, k4, k5, k6, k7, k8⟩
    · rw [k1]
      exact ⟨fun _ => ⟨⟨st, by simpa using k2, h2, h3, h4⟩, h.ar, h.most⟩, fun q => absurd rfl q⟩
    · have hs := step_facts hx k1
      cases hu : isUp w.down e with
      | true =>
        rw [k7 hu]
        refine ⟨fun _ => ⟨⟨t, by rw [k5]; simpa using k4, k6, hasF_snoc h3 k1, ?_⟩, h.ar, h.most⟩, fun q => absurd rfl q⟩
        simp only [crossed, List.length_append, List.length_cons, List.length_nil]
        omega
      | false =>
        rw [k8 hu hst]
        exact ⟨fun q => (by cases q), fun _ => ⟨h.ar, h.most, st, h3, h2, .inr ⟨rfl, e, t, k1, hu⟩⟩⟩
theorem strict_law {g : Gr} {v : Wt} {dn : List Bool} {d : Int} {L : List Sg} (h : listOf g v dn d = (L, 0)) (hsm : g.n ≤ 10) {w : Pw} (hg : w.g = g) (hst : w.strict = true) :
    (costOf g v dn).2 = 0 ∧ SC (cxOf g v dn) v.start L.length w.down (arun w v.from_ L) := by
  obtain ⟨h0, hf⟩ := list_follow h
  have hr := cost_right h0
  have hpo := ptsOk_of hr
  have hxok : (cxOf g v dn).Ok := ⟨hpo⟩
  have hL : L.length ≤ 10 := by have := listOf_len g v dn d; rw [h] at this; exact this
  have hN : (cxOf g v dn).left v.start < 255 := by
    have h1 := left_le (x := cxOf g v dn) v.start
    have h2 : (cxOf g v dn).p.length ≤ 6 := hpo.len.2
    have h3 : (cxOf g v dn).g.n.toNat ≤ 10 := by show g.n.toNat ≤ 10; omega
    have h4 : (cxOf g v dn).p.length * ((cxOf g v dn).g.n.toNat + 1) ≤ 6 * 11 := Nat.mul_le_mul h2 (by omega)
    omega
  refine ⟨h0, ?_⟩
  refine arun_inv w (K := SK (cxOf g v dn) v.start L.length) (C := SC (cxOf g v dn) v.start L.length w.down) (fun s _ hk h0 => (sk_step hxok hg hst hN hk).1 h0) (fun s _ hk h0 => (sk_step hxok hg hst hN hk).2 h0) _ _ (ja0 (by omega) v.from_) ?_ (by omega)
  exact ⟨⟨v.start, hf, rfl, rfl, by simp [pk0]⟩, rfl, rfl⟩
theorem best_law {g : Gr} {v : Wt} {down : List Bool} {d : Int} {L : List Sg} (h : listOf g v down d = (L, 0)) (hsm : g.n ≤ 10) (hash d0 : Int) :
    (arun ⟨g, hash, down, true, d0⟩ v.from_ L).fin = 1 ∧ (arun ⟨g, hash, down, true, d0⟩ v.from_ L).at_ = v.to ∧ (arun ⟨g, hash, down, true, d0⟩ v.from_ L).ar = 0 ∧ (arun ⟨g, hash, down, true, d0⟩ v.from_ L).most = L.length ∧ hasOf g v down (arun ⟨g, hash, down, true, d0⟩ v.from_ L).es = true := by
  obtain ⟨h0, h1⟩ := strict_law (w := ⟨g, hash, down, true, d0⟩) h hsm rfl rfl
  generalize arun ⟨g, hash, down, true, d0⟩ v.from_ L = R at *
  have hxok : (cxOf g v down).Ok := ⟨ptsOk_of (cost_right h0)⟩
  obtain ⟨st, k1, k2, k3⟩ := h1.go
  rcases k3 with ⟨k3, k4⟩ | ⟨k3, e, t, k4, k5⟩
  · refine ⟨k3, by rw [← k2, k4]; rfl, h1.ar, h1.most, ?_⟩
    unfold hasOf
    rw [decide_eq_true h0]
    have : hasF g v.pts (goneAll g v down) R.es v.start = some v.goal := by
      have k4' : st = v.goal := k4
      rw [← k4']
      exact k1
    rw [this]
    simp [atGoal]
  · have hs := step_facts hxok k4
    have := gone_up (g := g) (w := v) (down := down) hs.2.2.2.1.1 hs.2.2.2.1.2 hs.2.2.1
    rw [this] at k5
    cases k5
theorem around_strict_law {g : Gr} {v : Wt} {d : Int} {L : List Sg} (h : listOf g v [] d = (L, 0)) (hsm : g.n ≤ 10) (hash d0 : Int) (down : List Bool) :
    (arun ⟨g, hash, down, true, d0⟩ v.from_ L).ar = 0 ∧
    (((arun ⟨g, hash, down, true, d0⟩ v.from_ L).fin = 1 ∧ (arun ⟨g, hash, down, true, d0⟩ v.from_ L).at_ = v.to ∧ hasOf g v [] (arun ⟨g, hash, down, true, d0⟩ v.from_ L).es = true) ∨
     ((arun ⟨g, hash, down, true, d0⟩ v.from_ L).fin = 3 ∧ hasOf g v [] (arun ⟨g, hash, down, true, d0⟩ v.from_ L).es = false)) := by
  obtain ⟨h0, h1⟩ := strict_law (w := ⟨g, hash, down, true, d0⟩) h hsm rfl rfl
  generalize arun ⟨g, hash, down, true, d0⟩ v.from_ L = R at *
  have hxok : (cxOf g v []).Ok := ⟨ptsOk_of (cost_right h0)⟩
  refine ⟨h1.ar, ?_⟩
  obtain ⟨st, k1, k2, k3⟩ := h1.go
  have k1' : hasF g v.pts (goneAll g v []) R.es v.start = some st := k1
  have e0 : hasOf g v [] R.es = decide (st = v.goal) := by
    unfold hasOf
    rw [decide_eq_true h0, k1']
    simp [atGoal]
  rcases k3 with ⟨k3, k4⟩ | ⟨k3, e, t, k4, k5⟩
  · have k4' : st = v.goal := k4
    exact .inl ⟨k3, by rw [← k2, k4']; rfl, by rw [e0, k4']; simp⟩
  · refine .inr ⟨k3, ?_⟩
    rw [e0]
    refine decide_eq_false fun q => ?_
    have hs := (step_facts hxok k4).2.2.2.2.1
    rw [q] at hs
    have hp : (cxOf g v []).p.length = v.via.length + 2 := v.pts_len
    have hn : v.goal.n = v.via.length + 1 := rfl
    omega
end Go.Proofs

set_option linter.unusedSimpArgs false
set_option linter.unusedVariables false
namespace Go.Proofs
open Go.Ab

/-! ### Walks around a link -/
def wfollow (g : Gr) (to : Int) : List Sg → Int → Prop
  | [], a => a = to
  | x :: r, a => (x.e = true ∧ (0 ≤ x.t ∧ x.t < 2 * (g.ls.length : Int)) ∧ (g.ends x.t).1 = a ∧ wfollow g to r (g.ends x.t).2.1) ∨ (x.e = false ∧ 0 ≤ wdist g a x.t ∧ wfollow g to r x.t)
theorem leads_reach {g : Gr} {p : List Int} (hp : PtsOk g p) {gone : List Bool} {to : Int} {T G : St → Prop} (h : Leads g p gone to T G) : ∀ (f : Nat) (s : St), T s → (wdist g s.at_ to).toNat ≤ f → ∃ u, G u ∧ u.at_ = to
  | f, s, hs, hf => by
    by_cases hq : s.at_ = to
    · exact ⟨s, h.end_ s hs hq, hq⟩
    · have h1 := h.far s hs
      have h2 := wnext_ne hp.ok h1 hq
      obtain ⟨e, he⟩ := List.exists_mem_of_ne_nil _ h2
      obtain ⟨t, t1, t2⟩ := h.next s hs hq e he
      have h3 := wnext_facts hp.ok he
      have h4 := (step_ok_range hp t1).2.2.2.1
      rw [h4] at h3
      match f with
      | 0 => omega
      | f + 1 => exact leads_reach hp h f t t2 (by omega)
theorem follow_w {x : Cx} (hx : x.Ok) : ∀ (L : List Sg) (s : St), follow x L s → wfollow x.g x.goal.at_ L s.at_
  | [], s, h => by
    have : s = x.goal := h
    rw [this]
    rfl
  | a :: r, s, h => by
    rcases h with ⟨he, t, h1, h2⟩ | ⟨he, hr, T, h1, h2⟩
    · have hs := step_facts hx h1
      exact .inl ⟨he, hs.2.2.2.1, hs.2.1, by rw [← hs.1]; exact follow_w hx r t h2⟩
    · obtain ⟨u, u1, u2⟩ := leads_reach hx.pts h2 _ s h1 (Nat.le_refl _)
      exact .inr ⟨he, h2.far s h1, by rw [← u2]; exact follow_w hx r u u1⟩

def segCost (g : Gr) (a : Int) : List Sg → Nat
  | [] => 0
  | x :: r => (if x.e = true then 1 else rankAt g (spfFrom g [] x.t) a) + 33 + 45 * r.length
theorem segCost_le {g : Gr} (h : g.n ≤ 10) (a : Int) : ∀ l : List Sg, segCost g a l ≤ 45 * l.length
  | [] => by simp [segCost]
  | x :: r => by
    have := rank_le g (spfFrom g [] x.t) a
    show (if x.e = true then 1 else rankAt g (spfFrom g [] x.t) a) + 33 + 45 * r.length ≤ _
    by_cases hx : x.e = true
    · rw [if_pos hx]; simp only [List.length_cons]; omega
    · rw [if_neg hx]; simp only [List.length_cons]; omega
structure KA (g : Gr) (to : Int) (s : Pk) : Prop where
  go : wfollow g to s.l s.at_
  cost : s.es.length + segCost g s.at_ s.l ≤ 180
  ar : 0 ≤ s.ar ∧ s.ar + s.l.length ≤ 4
structure KB (g : Gr) (to : Int) (down : List Bool) (s : Pk) : Prop where
  go : ∃ (x : Cx) (L r : List Sg) (st : St), x.Ok ∧ x.g = g ∧ s.l = L ++ r ∧ follow x L st ∧ st.at_ = s.at_ ∧ wfollow g to r x.goal.at_ ∧ (∀ e, 0 ≤ e → e < 2 * (g.ls.length : Int) → isUp x.gone e = true → isUp down e = true) ∧
    s.es.length + x.left st + 45 * r.length ≤ 180 ∧ 0 ≤ s.ar ∧ s.ar + r.length ≤ 4
def KC (to : Int) (s : Pk) : Prop := (s.fin = 1 ∧ s.at_ = to) ∨ s.fin = 3
theorem ka_step {g : Gr} (hok : g.Ok) (hsm : g.n ≤ 10) {k : Int} (hk : 0 ≤ k) {to : Int} {w : Pw} (hg : w.g = g) (hdn : w.down = oneDown g (2 * k)) {s : Pk} (h : KA g to s) :
    ((stepOf w (arSpec w) s).1 = 0 → KA g to (stepOf w (arSpec w) s).2 ∨ KB g to w.down (stepOf w (arSpec w) s).2) ∧ ((stepOf w (arSpec w) s).1 ≠ 0 → KC to { (stepOf w (arSpec w) s).2 with fin := (stepOf w (arSpec w) s).1 }) := by
  obtain ⟨h1, h2, h3⟩ := h
  cases hl : s.l with
  | nil =>
    have hs : stepOf w (arSpec w) s = (1, s) := by unfold stepOf; rw [hl]
    rw [hl] at h1
    rw [hs]
    exact ⟨fun q => (by cases q), fun _ => .inl ⟨rfl, h1⟩⟩
  | cons a r =>
    rw [hl] at h1 h2 h3
    have hsc := segCost_le hsm
    have hes : s.es.length < 255 := by omega
    have hlb : ¬ labelBad w.g a s.at_ = true := by
      rcases h1 with ⟨q1, q2, q3, _⟩ | ⟨q1, q2, _⟩
      · simp [labelBad, Gr.isSeg, hg, q1, q2.1, q2.2, q3]
      · have := wdist_rng (g := g) (a := s.at_) (t := a.t) (by omega)
        simp [labelBad, Gr.isSeg, hg, q1, this.2.1, this.2.2]
    simp only [List.length_cons] at h3
    have := step_is w s
    generalize stepOf w (arSpec w) s = q at *
    cases this with
    | done h => rw [hl] at h; cases h
    | far h h' => omega
    | bad y z h h' => rw [hl] at h; cases h; exact absurd h' hlb
    | noway y z h h4 h5 h6 =>
      rw [hl] at h; cases h
      rcases h1 with ⟨q1, _⟩ | ⟨q1, q2, q3⟩
      · obtain ⟨ae, at_⟩ := a
        simp only at q1
        subst q1
        cases h6
      · obtain ⟨ae, at_⟩ := a
        simp only at q1 q2 h4
        subst q1
        obtain ⟨e, e1, _⟩ := hop_node (w := w) (a := s.at_) (t := at_) (by rw [hg]; exact wnext_ne hok q2 (fun q => h4 ⟨rfl, q.symm⟩))
        rw [e1] at h6
        cases h6
    | drop y z h h4 h5 =>
      rw [hl] at h; cases h
      refine ⟨fun _ => .inl ⟨?_, ?_, ?_⟩, fun q => absurd rfl q⟩
      · rcases h1 with ⟨q1, _⟩ | ⟨q1, q2, q3⟩
        · rw [q1] at h4; cases h4
        · show wfollow g to r s.at_
          rw [← h5]; exact q3
      · show s.es.length + segCost g s.at_ r ≤ 180
        have := hsc s.at_ r
        have e : segCost g s.at_ (a :: r) = (if a.e = true then 1 else rankAt g (spfFrom g [] a.t) s.at_) + 33 + 45 * r.length := rfl
        omega
      · show 0 ≤ s.ar ∧ s.ar + (r.length : Int) ≤ 4
        omega
    | cross y z e h h4 h5 h6 h7 h8 =>
      rw [hl] at h; cases h
      have he := hop_ends (by rw [hg]; exact hok) h6 h7
      rw [hg] at he
      refine ⟨fun _ => .inl ?_, fun q => absurd rfl q⟩
      have e0 : segCost g s.at_ (a :: r) = (if a.e = true then 1 else rankAt g (spfFrom g [] a.t) s.at_) + 33 + 45 * r.length := rfl
      rcases h1 with ⟨q1, q2, q3, q4⟩ | ⟨q1, q2, q3⟩
      · obtain ⟨ae, at_⟩ := a
        simp only at q1
        subst q1
        have e1 : at_ = e := by
          have : hopOf w ⟨true, at_⟩ s.at_ = (at_, true) := rfl
          rw [this] at h7
          exact congrArg (·.1) h7
        subst e1
        refine ⟨?_, ?_, ?_⟩
        · show wfollow g to r (w.g.ends at_).2.1
          rw [hg]; exact q4
        · show (s.es ++ [at_]).length + segCost g (w.g.ends at_).2.1 r ≤ 180
          have := hsc (w.g.ends at_).2.1 r
          rw [List.length_append]
          simp only [List.length_cons, List.length_nil]
          omega
        · show 0 ≤ s.ar ∧ s.ar + (r.length : Int) ≤ 4
          omega
      · obtain ⟨ae, at_⟩ := a
        simp only at q1 q2 q3
        subst q1
        have hmem : e ∈ wnextOf g s.at_ at_ := by
          obtain ⟨e', e1, e2⟩ := hop_node (w := w) (a := s.at_) (t := at_) (by rw [hg]; exact wnext_ne hok q2 (fun q => h5 ⟨rfl, q.symm⟩))
          rw [e1] at h7
          injection h7 with h7
          subst h7
          rw [hg] at e2
          exact e2
        have hw := wnext_facts hok hmem
        have hm := mem_wnext hok hmem
        have hrt := (wdist_rng (g := g) (a := s.at_) (t := at_) (by omega))
        refine ⟨?_, ?_, ?_⟩
        · show wfollow g to (⟨false, at_⟩ :: r) (w.g.ends e).2.1
          rw [hg]
          exact .inr ⟨rfl, hw.1, q3⟩
        · show (s.es ++ [e]).length + segCost g (w.g.ends e).2.1 (⟨false, at_⟩ :: r) ≤ 180
          have e2 : segCost g (w.g.ends e).2.1 (⟨false, at_⟩ :: r) = rankAt g (spfFrom g [] at_) (w.g.ends e).2.1 + 33 + 45 * r.length := rfl
          have e3 : segCost g s.at_ (⟨false, at_⟩ :: r) = rankAt g (spfFrom g [] at_) s.at_ + 33 + 45 * r.length := rfl
          have w1 : wdist g (g.ends e).2.1 at_ = at0 (spfFrom g [] at_) (g.ends e).2.1 := by unfold wdist; rw [if_pos ⟨hm.2.2, hrt.2⟩]
          have w2 : wdist g s.at_ at_ = at0 (spfFrom g [] at_) s.at_ := by unfold wdist; rw [if_pos hrt]
          have := rank_lt (g := g) (d := spfFrom g [] at_) (v := s.at_) (v' := (g.ends e).2.1) hm.2.2 (by omega) (by omega)
          rw [hg] at e2 ⊢
          rw [List.length_append]
          simp only [List.length_cons, List.length_nil]
          omega
        · show 0 ≤ s.ar ∧ s.ar + ((⟨false, at_⟩ :: r : List Sg).length : Int) ≤ 4
          simp only [List.length_cons]
          omega
    | stuck y z e h h4 h5 h6 h7 h8 => exact ⟨fun q => (by cases q), fun _ => .inr rfl⟩
    | around y z L e h h4 h5 h6 h7 h8 h9 h10 h11 h12 =>
      rw [hl] at h; cases h
      have he := hop_ends (by rw [hg]; exact hok) h6 h7
      rw [hg] at he h11
      have c0 : ¬ (s.ar + 1 = 255) := by omega
      rw [if_neg c0]
      refine ⟨fun _ => .inr ?_, fun q => absurd rfl q⟩
      unfold aroundL at h11
      rw [if_pos he.2.1] at h11
      obtain ⟨l0, lf⟩ := list_follow h11
      have hxok : (cxOf g (arWant g e (segEnd g a)) (oneDown g e)).Ok := ⟨ptsOk_of (cost_right l0)⟩
      have hod : oneDown g e = w.down := by
        have hk2 : (2 * k) / 2 = k := by omega
        have : e / 2 = k := by
          rw [hdn] at h8
          have h8' : isDown (oneDown g (2 * k)) (e / 2) = true := by rw [up_notdown he.2.2.1, h8]; rfl
          unfold isDown at h8'
          rw [Bool.and_eq_true, Bool.and_eq_true] at h8'
          have hlt := of_decide_eq_true h8'.2.1
          have h8 := h8'.2.2
          unfold oneDown at h8
          rw [hk2, List.getD_eq_getElem?_getD] at h8
          apply Decidable.byContradiction
          intro hne
          rw [List.getElem?_set_ne (by omega), List.getElem?_replicate] at h8
          split at h8 <;> cases h8
        rw [hdn]
        unfold oneDown
        rw [this, hk2]
      refine ⟨cxOf g (arWant g e (segEnd g a)) (oneDown g e), L, r, (arWant g e (segEnd g a)).start, hxok, rfl, rfl, lf, he.1, ?_, ?_, ?_, ?_, ?_⟩
      · show wfollow g to r (segEnd g a)
        obtain ⟨ae, at_⟩ := a
        rcases h1 with ⟨q1, q2, q3, q4⟩ | ⟨q1, q2, q3⟩
        · simp only at q1; subst q1; exact q4
        · simp only at q1; subst q1; exact q3
      · intro e' g0 g1 g2
        rw [← hod]
        exact gone_up g0 g1 g2
      · show s.es.length + (cxOf g (arWant g e (segEnd g a)) (oneDown g e)).left (arWant g e (segEnd g a)).start + 45 * r.length ≤ 180
        have e0 : segCost g s.at_ (a :: r) = (if a.e = true then 1 else rankAt g (spfFrom g [] a.t) s.at_) + 33 + 45 * r.length := rfl
        have k1 := left_le (x := cxOf g (arWant g e (segEnd g a)) (oneDown g e)) (arWant g e (segEnd g a)).start
        have k2 : (cxOf g (arWant g e (segEnd g a)) (oneDown g e)).p.length = 2 := rfl
        have k3 : (cxOf g (arWant g e (segEnd g a)) (oneDown g e)).g.n.toNat ≤ 10 := by show g.n.toNat ≤ 10; omega
        rw [k2] at k1
        omega
      · show 0 ≤ s.ar + 1
        omega
      · show s.ar + 1 + (r.length : Int) ≤ 4
        omega
theorem kb_step {g : Gr} (hok : g.Ok) (hsm : g.n ≤ 10) {k : Int} (hk : 0 ≤ k) {to : Int} {w : Pw} (hg : w.g = g) (hdn : w.down = oneDown g (2 * k)) {s : Pk} (h : KB g to w.down s) :
    ((stepOf w (arSpec w) s).1 = 0 → KA g to (stepOf w (arSpec w) s).2 ∨ KB g to w.down (stepOf w (arSpec w) s).2) ∧ ((stepOf w (arSpec w) s).1 ≠ 0 → KC to { (stepOf w (arSpec w) s).2 with fin := (stepOf w (arSpec w) s).1 }) := by
  obtain ⟨x, L, r, st, hx, hxg, h1, h2, h3, h4, h5, h6, h7, h8⟩ := h.go
  cases L with
  | nil =>
    have hst : st = x.goal := h2
    refine ka_step hok hsm hk hg hdn ⟨?_, ?_, ?_⟩
    · rw [h1, ← h3, hst]; exact h4
    · rw [h1]
      have := segCost_le hsm s.at_ r
      simp only [List.nil_append]
      omega
    · rw [h1]
      simp only [List.nil_append]
      omega
  | cons a L =>
    rcases follow_step hx (by rw [hg, hxg]) (L := L) (r := r) (by rw [h1]; rfl) h2 h3 (by omega) with ⟨k1, k2⟩ | ⟨e, t, L', k1, k2, k3, k4, k5, k6, k7, k8⟩
    · rw [k1]
      exact ⟨fun _ => .inr ⟨x, L, r, st, hx, hxg, rfl, k2, h3, h4, h5, h6, h7, h8⟩, fun q => absurd rfl q⟩
    · have hs := step_facts hx k1
      have hu := h5 e hs.2.2.2.1.1 (by have := hs.2.2.2.1.2; rw [hxg] at this; exact this) hs.2.2.1
      rw [k7 hu]
      refine ⟨fun _ => .inr ⟨x, L', r, t, hx, hxg, k5, k4, k6, h4, h5, ?_, h7, h8⟩, fun q => absurd rfl q⟩
      simp only [crossed, List.length_append, List.length_cons, List.length_nil]
      omega
theorem listOf_len4 {g : Gr} {w : Wt} {down : List Bool} {d : Int} : (listOf g w down d).1.length ≤ (cutD d).toNat := by
  unfold listOf
  split
  case isFalse => simp
  rename_i h0
  split
  · rename_i R hR
    have hr := cost_right h0
    have hxok : (cxOf g w down).Ok := ⟨ptsOk_of hr⟩
    have hst : VSt (cxOf g w down).g w.start := start_valid hr
    obtain ⟨_, h2, _⟩ := roundsF_spec hxok _ _ _ _ R hR ⟨[], ⟨rfl, by simp, by simpa using hst⟩⟩ (by simpa using hst)
    have a1 := (cxOf g w down).pick_len (((cxOf g w down).leftL R).drop 1) w.start
    have a2 := (cxOf g w down).leftL_len R
    have a3 := cutD_rng d
    rw [List.length_drop] at a1
    simp only [List.length_cons, List.length_nil] at h2
    simp only
    omega
  · simp
theorem around_law {g : Gr} {v : Wt} {L : List Sg} (h : listOf g v [] 4 = (L, 0)) (hsm : g.n ≤ 10) {k : Int} (hk : 0 ≤ k) (hash d0 : Int) (strict : Bool) :
    ((arun ⟨g, hash, oneDown g (2 * k), strict, d0⟩ v.from_ L).fin = 1 ∧ (arun ⟨g, hash, oneDown g (2 * k), strict, d0⟩ v.from_ L).at_ = v.to) ∨ (arun ⟨g, hash, oneDown g (2 * k), strict, d0⟩ v.from_ L).fin = 3 := by
  obtain ⟨h0, hf⟩ := list_follow h
  have hr := cost_right h0
  have hpo := ptsOk_of hr
  have hxok : (cxOf g v []).Ok := ⟨hpo⟩
  have hL : L.length ≤ 4 := by
    have := listOf_len4 (g := g) (w := v) (down := []) (d := 4)
    rw [h] at this
    have e : (cutD 4).toNat = 4 := by decide
    rw [e] at this
    exact this
  refine arun_inv ⟨g, hash, oneDown g (2 * k), strict, d0⟩ (K := fun s => KA g v.to s ∨ KB g v.to (oneDown g (2 * k)) s) (C := KC v.to) (fun s _ hk' h0 => ?_) (fun s _ hk' h0 => ?_) _ _ (ja0 (by omega) v.from_) (.inl ?_) (by omega)
  · rcases hk' with hk' | hk'
    · exact (ka_step hpo.ok hsm hk rfl rfl hk').1 h0
    · exact (kb_step (w := ⟨g, hash, oneDown g (2 * k), strict, d0⟩) hpo.ok hsm hk rfl rfl hk').1 h0
  · rcases hk' with hk' | hk'
    · exact (ka_step hpo.ok hsm hk rfl rfl hk').2 h0
    · exact (kb_step (w := ⟨g, hash, oneDown g (2 * k), strict, d0⟩) hpo.ok hsm hk rfl rfl hk').2 h0
  · refine ⟨follow_w hxok L v.start hf, ?_, ?_⟩
    · have := segCost_le hsm v.from_ L
      show 0 + segCost g v.from_ L ≤ 180
      omega
    · show (0 : Int) ≤ 0 ∧ 0 + (L.length : Int) ≤ 4
      omega
end Go.Proofs

set_option linter.unusedSimpArgs false
set_option linter.unusedVariables false
namespace Go.Proofs
open Go.Ab

/-! ### WalkAround -/
theorem path_up {g : Gr} {down : List Bool} : ∀ {a b : Int} {es : List Int}, pathOk g down a es b → ∀ e ∈ es, isUp down e = true
  | a, b, [], _ => fun e he => by cases he
  | a, b, x :: r, h => fun e he => by
    rcases List.mem_cons.1 he with rfl | he
    · exact h.2.2.1
    · exact path_up h.2.2.2 e he
theorem up_one {g : Gr} {k e : Int} (hk : 0 ≤ k ∧ k < (g.ls.length : Int)) (he : 0 ≤ e) (h : isUp (oneDown g (2 * k)) e = true) : e / 2 ≠ k := by
  intro q
  have h2 : isDown (oneDown g (2 * k)) (e / 2) = false := by rw [up_notdown he, h]; rfl
  unfold isDown at h2
  have hl : (oneDown g (2 * k)).length = g.ls.length := by simp [oneDown]
  rw [hl, q, decide_eq_true hk.1, decide_eq_true hk.2, Bool.true_and, Bool.true_and] at h2
  unfold oneDown at h2
  rw [show 2 * k / 2 = k by omega, List.getD_eq_getElem?_getD, List.getElem?_set_self (by simp; omega)] at h2
  cases h2
theorem around_law_ok (g : Gr) (w : Wt) (link hash : Int) (strict : Bool) : PGood Try.prog 4 [g.val, w.val, .i link, .i hash, .b strict] (.b true) := by
  refine pgood_of_out 4 (good_of_wp isF4 (Nat.le_refl _) ?_)
  unfold ac4
  have kw : known (AVal.agg w.cells) = some w.cells := rfl
  have lw : w.cells.length = 7 := rfl
  have tw : List.take 7 w.cells = w.cells := rfl
  simp only [go_sem, simprocAttr, Gr.val, Wt.val, kw, lw]
  intro gid hgid
  simp only [go_sem, simprocAttr, kw, lw]
  intro wid hwid
  have nwg : gid ≠ wid := fun e => by rw [← e] at hwid; simp at hwid
  have rg : Ab.rowAt ((Store.empty.set gid (.row 0 false 2 [[.sc (.int .i64 g.n), .lst (g.ls.map Lk.row)]])).set wid (.row 0 false 7 [w.cells])) gid 0 = some (false, 2, [[.sc (.int .i64 g.n), .lst (g.ls.map Lk.row)]]) := by rw [rowAt_ne nwg]; exact rowAt_self
  have rw1 : Ab.rowAt ((Store.empty.set gid (.row 0 false 2 [[.sc (.int .i64 g.n), .lst (g.ls.map Lk.row)]])).set wid (.row 0 false 7 [w.cells])) wid 0 = some (false, 7, [w.cells]) := rowAt_self
  simp only [go_sem, simprocAttr]
  generalize (Store.empty.set gid (.row 0 false 2 [[.sc (.int .i64 g.n), .lst (g.ls.map Lk.row)]])).set wid (.row 0 false 7 [w.cells]) = σ0 at *
  refine good_imm alive_ok rfl ?_
  have sm := small_ok g
  have fw := few_ok w
  have t1 := tables_ok g
  simp only [Gr.val, Wt.val] at sm t1 fw
  simp only [go_sem, simprocAttr, rg, rw1, lw, tw]
  refine good_imm sm rfl ?_
  simp only [go_sem, simprocAttr]
  by_cases h1 : g.n ≤ 10 ∧ (g.ls.length : Int) ≤ 16
  case neg =>
    simp only [go_sem, simprocAttr, h1]
    exact out_sc
  simp only [go_sem, simprocAttr, h1, rg, rw1, lw, tw]
  refine good_imm fw rfl ?_
  simp only [go_sem, simprocAttr]
  by_cases h2 : (w.via.length : Int) ≤ 20 ∧ (w.nodes.length : Int) ≤ 60 ∧ (w.links.length : Int) ≤ 60 ∧ (w.cols.length : Int) ≤ 60
  case neg =>
    simp only [go_sem, simprocAttr, h2]
    exact out_sc
  by_cases h3 : link < 0
  · simp only [go_sem, simprocAttr, h2, h3]
    exact out_sc
  have hll : (g.ls.map Lk.row).length = g.ls.length := List.length_map _
  by_cases h4 : (g.ls.length : Int) ≤ link
  · simp only [go_sem, simprocAttr, h2, h3, ge_iff_le, h4, rg, rw1, lw, tw, hll]
    exact out_sc
  have hk : 0 ≤ link ∧ link < (g.ls.length : Int) := ⟨by omega, by omega⟩
  have hfew : w.Few := ⟨by omega, by omega, by omega, by omega⟩
  simp only [go_sem, simprocAttr, h2, h3, h4, ge_iff_le, bools_len, rg, rw1, lw, tw, hll]
  refine good_imm t1 rfl ?_
  unfold tabsOf
  by_cases hc : g.check.2 = 0
  case neg =>
    simp only [go_sem, simprocAttr, hc]
    exact out_sc
  have hok : g.Ok := g.check_ok.1 hc
  have hgl : g.ls.length ≤ 120 := hok.1
  have hlist := list_ok g w hfew [] (by simp) (by omega) 4
  simp only [go_sem, simprocAttr, hc, rg, rw1, lw, tw]
  refine good_outi (xs := [g.tab, w.val, .lst (bools []), .i 4]) ⟨out_imm rfl, out_imm rfl, out_nils, out_sc, trivial⟩ rfl hlist ?_
  simp only [go_sem, simprocAttr]
  refine good_imm (num_ok _) rfl ?_
  simp only [go_sem, simprocAttr]
  cases hL : listOf g w [] 4 with
  | mk L c =>
  by_cases h0 : c = 0
  case neg =>
    simp only [go_sem, simprocAttr, h0]
    exact out_sc
  subst h0
  obtain ⟨c0, _⟩ := list_follow hL
  have hright := right_facts (cost_right c0)
  have hf : 0 ≤ w.from_ ∧ w.from_ < g.n := hright.2.1 _ (by simp [Wt.pts])
  have hLl : L.length ≤ 10 := by have := listOf_len g w [] 4; rw [hL] at this; exact this
  have run := arun_ok ⟨g, hash, oneDown g (2 * link), strict, cutD 10⟩ hok w.from_ L 10 rfl (by omega) hf
  have hE := arun_ended ⟨g, hash, oneDown g (2 * link), strict, cutD 10⟩ hok w.from_ L (by omega)
  have law1 := around_law hL h1.1 hk.1 hash (cutD 10) strict
  have law2 : strict = true → (arun ⟨g, hash, oneDown g (2 * link), strict, cutD 10⟩ w.from_ L).ar = 0 ∧ (((arun ⟨g, hash, oneDown g (2 * link), strict, cutD 10⟩ w.from_ L).fin = 1 ∧ (arun ⟨g, hash, oneDown g (2 * link), strict, cutD 10⟩ w.from_ L).at_ = w.to ∧ hasOf g w [] (arun ⟨g, hash, oneDown g (2 * link), strict, cutD 10⟩ w.from_ L).es = true) ∨ ((arun ⟨g, hash, oneDown g (2 * link), strict, cutD 10⟩ w.from_ L).fin = 3 ∧ hasOf g w [] (arun ⟨g, hash, oneDown g (2 * link), strict, cutD 10⟩ w.from_ L).es = false)) := fun hs => by
    subst hs
    exact around_strict_law hL h1.1 hash (cutD 10) (oneDown g (2 * link))
  generalize arun ⟨g, hash, oneDown g (2 * link), strict, cutD 10⟩ w.from_ L = R at *
  have hes := hE.es
  have hrng : ∀ e ∈ R.es, 0 ≤ e ∧ e < 2 * (g.ls.length : Int) := hE.rng
  have hup : ∀ e ∈ R.es, isUp (oneDown g (2 * link)) e = true := path_up hE.path
  clear hE
  have q1 : (0 : Int) ≤ (g.ls.length : Int) := by omega
  have q2 : (g.ls.length : Int) ≤ 9223372036854775807 := by omega
  have q3 : g.ls.length * 1 ≤ 281474976710656 := by omega
  simp only [go_sem, simprocAttr, rg, hll, q1, q2, q3]
  intro did hdid
  have hrep : (List.replicate g.ls.length [AVal.sc (.bool false)])[link.toNat]? = some [.sc (.bool false)] := by rw [List.getElem?_replicate, if_pos (by omega)]
  have e2 : (List.replicate g.ls.length [AVal.sc (.bool false)]).set link.toNat [.sc (.bool true)] = bools (oneDown g (2 * link)) := by
    unfold oneDown
    rw [bools_set, bools_rep, show 2 * link / 2 = link by omega]
  have hol : (oneDown g (2 * link)).length = g.ls.length := by simp [oneDown]
  have rw2 : ∀ o, Ab.rowAt (σ0.set did o) wid 0 = some (false, 7, [w.cells]) := fun o => (rowAt_fresh (o := o) hdid (j := wid) (ver := 0) (by rw [rw1]; rfl)).trans rw1
  have rg2 : ∀ o, Ab.rowAt (σ0.set did o) gid 0 = some (false, 2, [[.sc (.int .i64 g.n), .lst (g.ls.map Lk.row)]]) := fun o => (rowAt_fresh (o := o) hdid (j := gid) (ver := 0) (by rw [rg]; rfl)).trans rg
  simp only [go_sem, simprocAttr, hk.1, hk.2, hrep, e2, rw2, Wt.cells]
  have hr := rowAt_self (σ := σ0) (id := did) (v := 0) (fz := false) (sz := 1) (xs := bools (oneDown g (2 * link)))
  have rw3 := rw2 (.row 0 false 1 (bools (oneDown g (2 * link))))
  have rg3 := rg2 (.row 0 false 1 (bools (oneDown g (2 * link))))
  generalize σ0.set did (.row 0 false 1 (bools (oneDown g (2 * link)))) = σ1 at *
  refine good_out_any (xs := [g.tab, .i w.from_, .lst (segs L), .i hash, .lst (bools (oneDown g (2 * link))), .b strict, .i 10]) 4 ⟨out_imm rfl, out_sc, out_imm rfl, out_sc, out_sl hr (by rw [bools_len, hol]; omega) (by rw [List.drop_zero, List.take_of_length_le (by rw [bools_len, hol]; omega)]) (bools_sc _), out_sc, out_sc, trivial⟩ run ?_
  rintro τ ⟨p, rfl⟩
  have rw4 := rowAt_freeze (p := p) rw3
  have rg4 := rowAt_freeze (p := p) rg3
  generalize σ1.freeze p = τ at *
  clear hr rw3 rg3 rw2 rg2 hrep e2 rg rw1 hdid
  simp only [go_sem, simprocAttr, walkVal]
  intro rid hrid
  have rw5 := (rowAt_fresh (o := .row 0 false 5 [[.lst (ints R.es), .sc (.int .i64 R.at_), .sc (.int .i64 R.fin), .sc (.int .i64 R.ar), .sc (.int .i64 R.most)]]) hrid (j := wid) (ver := 0) (by rw [rw4]; rfl)).trans rw4
  have rg5 := (rowAt_fresh (o := .row 0 false 5 [[.lst (ints R.es), .sc (.int .i64 R.at_), .sc (.int .i64 R.fin), .sc (.int .i64 R.ar), .sc (.int .i64 R.most)]]) hrid (j := gid) (ver := 0) (by rw [rg4]; rfl)).trans rg4
  have rr : Ab.rowAt (τ.set rid (.row 0 false 5 [[.lst (ints R.es), .sc (.int .i64 R.at_), .sc (.int .i64 R.fin), .sc (.int .i64 R.ar), .sc (.int .i64 R.most)]])) rid 0 = some (false, 5, [[.lst (ints R.es), .sc (.int .i64 R.at_), .sc (.int .i64 R.fin), .sc (.int .i64 R.ar), .sc (.int .i64 R.most)]]) := rowAt_self
  simp only [go_sem, simprocAttr]
  generalize τ.set rid (.row 0 false 5 [[.lst (ints R.es), .sc (.int .i64 R.at_), .sc (.int .i64 R.fin), .sc (.int .i64 R.ar), .sc (.int .i64 R.most)]]) = υ at *
  refine loop_rule (fun m fr σ => ∃ i : Nat, i ≤ R.es.length ∧ m = R.es.length - i ∧ fr = [(2, .i link), (4, .b strict), (5, .ptr gid 0 0 0), (6, .ptr wid 0 0 0), (18, .ptr rid 0 0 0), (19, .i i)] ∧ σ = υ) R.es.length ⟨0, by omega, rfl, rfl, rfl⟩ ?_
  rintro m fr σ ⟨i, i1, rfl, rfl, rfl⟩
  have hwi : IntKind.i64.wrap ((i : Int) + 1) = ((i + 1 : Nat) : Int) := by rw [wrap_id (by omega) (by omega)]; rfl
  have qi : (0 : Int) ≤ (i : Int) := by omega
  simp only [go_sem, simprocAttr, rr, ints_len]
  refine .intro (fun hi => ?_) (fun hi => ?_)
  · have hl : R.es[i]? = some R.es[i] := List.getElem?_eq_getElem (by omega)
    generalize R.es[i]'(by omega) = e at *
    have hre := hrng e (List.mem_of_getElem? hl)
    have hne := up_one hk hre.1 (hup e (List.mem_of_getElem? hl))
    have hir : (ints R.es)[i]? = some [.sc (.int .i64 e)] := by unfold ints; rw [List.getElem?_map, hl]; rfl
    have hwd : IntKind.i64.wrap (Int.tdiv e 2) = e / 2 := by
      rw [Int.tdiv_eq_ediv_of_nonneg hre.1]
      exact wrap_id (by omega) (by omega)
    have c20 : ¬ ((2 : Int) = 0) := by omega
    simp only [go_sem, simprocAttr, rr, qi, hi, hir, hwd, c20, hne, hwi]
    exact back_of _ (by omega) ⟨i + 1, by omega, rfl, rfl, rfl⟩
  · have has := rhas_ok g w hfew [] (by simp) (by omega) R.es (by omega) (fun e he => by have := hrng e he; omega)
    simp only [go_sem, simprocAttr]
    cases hs : strict with
    | true =>
      obtain ⟨m1, m2⟩ := law2 hs
      rcases m2 with ⟨m2, m3, m4⟩ | ⟨m2, m4⟩
      · rw [m4] at has
        simp only [go_sem, simprocAttr, rr, rw5, rg5, m1, m2, m3, lw, tw, Wt.cells]
        refine good_outi (xs := [g.val, w.val, .lst (bools []), .lst (ints R.es)]) ⟨out_imm rfl, out_imm rfl, out_nils, out_imm rfl, trivial⟩ rfl has ?_
        simp only [go_sem, simprocAttr]
        exact out_sc
      · rw [m4] at has
        have c31 : ¬ ((3 : Int) = 1) := by omega
        simp only [go_sem, simprocAttr, rr, rw5, rg5, m1, m2, c31, lw, tw, Wt.cells]
        refine good_outi (xs := [g.val, w.val, .lst (bools []), .lst (ints R.es)]) ⟨out_imm rfl, out_imm rfl, out_nils, out_imm rfl, trivial⟩ rfl has ?_
        simp only [go_sem, simprocAttr]
        exact out_sc
    | false =>
      rcases law1 with ⟨m2, m3⟩ | m2
      · simp only [go_sem, simprocAttr, rr, rw5, m2, m3, Wt.cells]
        exact out_sc
      · have c31 : ¬ ((3 : Int) = 1) := by omega
        simp only [go_sem, simprocAttr, rr, rw5, m2, c31, Wt.cells]
        exact out_sc
end Go.Proofs

namespace Go.Proofs.Ytjaejliefojfjaa
open Go.ChangeShapes Go.WideShapes Go.ChangeAt Go.RowKit Go.Ab
set_option linter.unusedVariables false

theorem ownKn : ownKnob Try.prog.godebug = none := by kernel_rfl
theorem laidOut : laidOutB Try.prog = true := by kernel_rfl
/-- A law that answers true, called. -/
theorem law_calls {f : FuncId} {xs : List AVal} (h : PGood Try.prog f xs (.b true)) {W : World} {vs : Array Value} (hr : RelL Asg.none (fun b => b < W.heap.size) W xs vs) :
    Calls Try.prog f vs W fun e w' => e = .returned (.bool true) ∧ Below W.heap.size W w' := by
  refine (h.2 (fun b => b < W.heap.size) W vs (fun _ h => h) hr).mono ?_
  rintro e w' ⟨v, Im', rfl, _, _, _, h4, h5⟩
  rw [rel_sc_inv h4]
  exact ⟨rfl, h5.toBelow⟩
end Go.Proofs.Ytjaejliefojfjaa

namespace Go.Proofs.Ytjaejliefojfjaa
open Go.ChangeShapes Go.WideShapes Go.ChangeAt Go.RowKit Go.Ab
set_option linter.unusedVariables false

theorem row24 : rowOf Try.prog 5 24 = some [.int .i64, .slice [.int .i64, .int .i64, .int .i64, .int .i64]] := by kernel_rfl
theorem row27 : rowOf Try.prog 5 27 = some [.int .i64, .int .i64, .int .i64, .slice [.int .i64], .slice [.int .i64], .slice [.int .i64], .slice [.int .i64]] := by kernel_rfl
theorem row28 : rowOf Try.prog 5 28 = some [.slice [.bool]] := by kernel_rfl
theorem row36 : rowOf Try.prog 5 36 = some [.slice [.bool, .int .i64]] := by kernel_rfl
theorem hasInt {x : AVal} (h : HasC (.int .i64) x) : ∃ n, x = .sc (.int .i64 n) ∧ (Lit.int .i64 n).wf = true := by cases h with | int k n hw => exact ⟨n, rfl, hw⟩
theorem hasBools {x : AVal} (h : HasC (.slice [.bool]) x) : ∃ l : List Bool, x = .lst (bools l) := by
  cases h with
  | lst row xs hl h1 h2 =>
    have key : ∀ ys : List (List AVal), (∀ y ∈ ys, y ∈ xs) → ∃ l : List Bool, ys = bools l := fun ys => by
      induction ys with
      | nil => intro _; exact ⟨[], rfl⟩
      | cons y r ih =>
        intro hm
        obtain ⟨l, hl'⟩ := ih fun z hz => hm z (by simp [hz])
        have hy := hm y (by simp)
        have hlen := h1 y hy
        match y, hlen with
        | [c], _ =>
          have hc := h2 [c] hy 0 .bool c rfl rfl
          cases hc with
          | bool b => exact ⟨b :: l, by rw [hl']; rfl⟩
    obtain ⟨l, hl'⟩ := key xs fun _ h => h
    exact ⟨l, by rw [hl']⟩
theorem hasLinks {x : AVal} (h : HasC (.slice [.int .i64, .int .i64, .int .i64, .int .i64]) x) : ∃ l : List Lk, x = .lst (l.map Lk.row) := by
  cases h with
  | lst row xs hl h1 h2 =>
    have key : ∀ ys : List (List AVal), (∀ y ∈ ys, y ∈ xs) → ∃ l : List Lk, ys = l.map Lk.row := fun ys => by
      induction ys with
      | nil => intro _; exact ⟨[], rfl⟩
      | cons y r ih =>
        intro hm
        obtain ⟨l, hl'⟩ := ih fun z hz => hm z (by simp [hz])
        have hy := hm y (by simp)
        have hlen := h1 y hy
        match y, hlen with
        | [a, b, c, d], _ =>
          obtain ⟨a', rfl, _⟩ := hasInt (h2 _ hy 0 _ a rfl rfl)
          obtain ⟨b', rfl, _⟩ := hasInt (h2 _ hy 1 _ b rfl rfl)
          obtain ⟨c', rfl, _⟩ := hasInt (h2 _ hy 2 _ c rfl rfl)
          obtain ⟨d', rfl, _⟩ := hasInt (h2 _ hy 3 _ d rfl rfl)
          exact ⟨⟨a', b', c', d'⟩ :: l, by rw [hl']; rfl⟩
    obtain ⟨l, hl'⟩ := key xs fun _ h => h
    exact ⟨l, by rw [hl']⟩
theorem hasGr {xs : List AVal} (hl : xs.length = 2) (h : ∀ (i : Nat) c x, ([.int .i64, .slice [.int .i64, .int .i64, .int .i64, .int .i64]] : List CT)[i]? = some c → xs[i]? = some x → HasC c x) : ∃ g : Gr, AVal.agg xs = g.val := by
  match xs, hl with
  | [a, b], _ =>
    obtain ⟨n, rfl, _⟩ := hasInt (h 0 _ a rfl rfl)
    obtain ⟨l, rfl⟩ := hasLinks (h 1 _ b rfl rfl)
    exact ⟨⟨n, l⟩, rfl⟩

theorem hasSegs {x : AVal} (h : HasC (.slice [.bool, .int .i64]) x) : ∃ l : List Sg, x = .lst (segs l) := by
  cases h with
  | lst row xs hl h1 h2 =>
    have key : ∀ ys : List (List AVal), (∀ y ∈ ys, y ∈ xs) → ∃ l : List Sg, ys = segs l := fun ys => by
      induction ys with
      | nil => intro _; exact ⟨[], rfl⟩
      | cons y r ih =>
        intro hm
        obtain ⟨l, hl'⟩ := ih fun z hz => hm z (by simp [hz])
        have hy := hm y (by simp)
        have hlen := h1 y hy
        match y, hlen with
        | [c, d], _ =>
          have hc := h2 _ hy 0 .bool c rfl rfl
          obtain ⟨n, rfl, _⟩ := hasInt (h2 _ hy 1 _ d rfl rfl)
          cases hc with
          | bool b => exact ⟨⟨b, n⟩ :: l, by rw [hl']; rfl⟩
    obtain ⟨l, hl'⟩ := key xs fun _ h => h
    exact ⟨l, by rw [hl']⟩
theorem hasInts {x : AVal} (h : HasC (.slice [.int .i64]) x) : ∃ l : List Int, x = .lst (ints l) := by
  cases h with
  | lst row xs hl h1 h2 =>
    have key : ∀ ys : List (List AVal), (∀ y ∈ ys, y ∈ xs) → ∃ l : List Int, ys = ints l := fun ys => by
      induction ys with
      | nil => intro _; exact ⟨[], rfl⟩
      | cons y r ih =>
        intro hm
        obtain ⟨l, hl'⟩ := ih fun z hz => hm z (by simp [hz])
        have hy := hm y (by simp)
        have hlen := h1 y hy
        match y, hlen with
        | [c], _ =>
          obtain ⟨n, rfl, _⟩ := hasInt (h2 _ hy 0 _ c rfl rfl)
          exact ⟨n :: l, by rw [hl']; rfl⟩
    obtain ⟨l, hl'⟩ := key xs fun _ h => h
    exact ⟨l, by rw [hl']⟩
theorem hasWt {xs : List AVal} (hl : xs.length = 7) (h : ∀ (i : Nat) c x, ([.int .i64, .int .i64, .int .i64, .slice [.int .i64], .slice [.int .i64], .slice [.int .i64], .slice [.int .i64]] : List CT)[i]? = some c → xs[i]? = some x → HasC c x) : ∃ w : Wt, AVal.agg xs = w.val := by
  match xs, hl with
  | [a, b, c, d, e, f, k], _ =>
    obtain ⟨n, rfl, _⟩ := hasInt (h 0 _ a rfl rfl)
    obtain ⟨n1, rfl, _⟩ := hasInt (h 1 _ b rfl rfl)
    obtain ⟨n2, rfl, _⟩ := hasInt (h 2 _ c rfl rfl)
    obtain ⟨l0, rfl⟩ := hasInts (h 3 _ d rfl rfl)
    obtain ⟨l1, rfl⟩ := hasInts (h 4 _ e rfl rfl)
    obtain ⟨l2, rfl⟩ := hasInts (h 5 _ f rfl rfl)
    obtain ⟨l3, rfl⟩ := hasInts (h 6 _ k rfl rfl)
    exact ⟨⟨n, n1, n2, l0, l1, l2, l3⟩, rfl⟩
theorem relL4 {Im : Nat → Prop} {W : World} {a b c d : AVal} {v0 v1 v2 v3 : Value} (h0 : Rel Asg.none Im W a v0) (h1 : Rel Asg.none Im W b v1) (h2 : Rel Asg.none Im W c v2) (h3 : Rel Asg.none Im W d v3) : RelL Asg.none Im W [a, b, c, d] #[v0, v1, v2, v3] := ⟨rfl, fun i x v hx hv => by
  match i with
  | 0 => simp at hx hv; subst hx hv; exact h0
  | 1 => simp at hx hv; subst hx hv; exact h1
  | 2 => simp at hx hv; subst hx hv; exact h2
  | 3 => simp at hx hv; subst hx hv; exact h3
  | i + 4 => simp at hx⟩
theorem relL5 {Im : Nat → Prop} {W : World} {a b c d e : AVal} {v0 v1 v2 v3 v4 : Value} (h0 : Rel Asg.none Im W a v0) (h1 : Rel Asg.none Im W b v1) (h2 : Rel Asg.none Im W c v2) (h3 : Rel Asg.none Im W d v3) (h4 : Rel Asg.none Im W e v4) : RelL Asg.none Im W [a, b, c, d, e] #[v0, v1, v2, v3, v4] := ⟨rfl, fun i x v hx hv => by
  match i with
  | 0 => simp at hx hv; subst hx hv; exact h0
  | 1 => simp at hx hv; subst hx hv; exact h1
  | 2 => simp at hx hv; subst hx hv; exact h2
  | 3 => simp at hx hv; subst hx hv; exact h3
  | 4 => simp at hx hv; subst hx hv; exact h4
  | i + 5 => simp at hx⟩
theorem relL6 {Im : Nat → Prop} {W : World} {a b c d e f : AVal} {v0 v1 v2 v3 v4 v5 : Value} (h0 : Rel Asg.none Im W a v0) (h1 : Rel Asg.none Im W b v1) (h2 : Rel Asg.none Im W c v2) (h3 : Rel Asg.none Im W d v3) (h4 : Rel Asg.none Im W e v4) (h5 : Rel Asg.none Im W f v5) : RelL Asg.none Im W [a, b, c, d, e, f] #[v0, v1, v2, v3, v4, v5] := ⟨rfl, fun i x v hx hv => by
  match i with
  | 0 => simp at hx hv; subst hx hv; exact h0
  | 1 => simp at hx hv; subst hx hv; exact h1
  | 2 => simp at hx hv; subst hx hv; exact h2
  | 3 => simp at hx hv; subst hx hv; exact h3
  | 4 => simp at hx hv; subst hx hv; exact h4
  | 5 => simp at hx hv; subst hx hv; exact h5
  | i + 6 => simp at hx⟩
end Go.Proofs.Ytjaejliefojfjaa
