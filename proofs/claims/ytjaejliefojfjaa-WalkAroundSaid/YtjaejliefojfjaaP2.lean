/- A part of the proof: lemmas alone, no statement. -/
import Derived.Test.YtjaejliefojfjaaP1
import Derived.Attr
import Derived.Deep.Slices
import Derived.WideShapes
import Derived.RowKit
import Derived.Carry
set_option linter.unusedVariables false
set_option linter.unusedSimpArgs false
set_option linter.unnecessarySimpa false
set_option linter.unusedSectionVars false
/- Regions whose order is open: operations that do not meddle with each other may change places. -/
set_option linter.unusedVariables false
set_option linter.unusedSimpArgs false
namespace Go.Ab

/-! ### What an operation reads of the frame -/
def opT : Operand → List Nat
  | .tmp t => [t]
  | _ => []
def optT : Option Operand → List Nat
  | some x => opT x
  | none => []
def reads : AOp → List Nat
  | .move x | .box x | .load _ _ x | .nilCheck x | .un _ x | .convInt _ x | .convStr x | .fieldAddr _ x | .field _ _ _ x | .extract x _ | .lenS x | .lenStr x => opT x
  | .pick c a b => opT c ++ opT a ++ opT b
  | .alloc _ => []
  | .build _ ps => ps.flatMap fun p => opT p.2.2
  | .buildSlice _ _ _ ps => ps.flatMap fun p => opT p.2
  | .store _ x v => opT x ++ opT v
  | .bin _ x y | .eqBool _ x y | .eqPtr _ x y | .eqSl _ x y | .eqAgg _ _ x y => opT x ++ opT y
  | .makeFunc _ l | .callF _ l | .minmax _ l => l.flatMap opT
  | .callV x l => opT x ++ l.flatMap opT
  | .makeSlice _ _ _ l c => opT l ++ opT c
  | .slice _ x lo hi mx => opT x ++ optT lo ++ optT hi ++ optT mx
  | .sliceStr x lo hi => opT x ++ optT lo ++ optT hi
  | .indexAddrS _ x i | .indexAddrA _ _ x i | .indexA _ _ _ x i | .indexStr x i => opT x ++ opT i
  | .append _ _ _ s x | .appendStr _ _ s x | .appendMk _ _ _ s x => opT s ++ opT x
  | .bad | .makeMap => []
  | .lookup _ _ _ _ x i => opT x ++ opT i
  | .mapUpd _ _ m k v => opT m ++ opT k ++ opT v
  | .mapDel _ _ m k => opT m ++ opT k
  | .capS x => opT x

section
variable {g g' : Nat → AVal} {σ : Store}
theorem aeval_agree {x : Operand} (h : ∀ t ∈ opT x, g t = g' t) : aeval g x = aeval g' x := by
  cases x with
  | tmp t => exact h t (by simp [opT])
  | _ => rfl
theorem map_agree {l : List Operand} (h : ∀ t ∈ l.flatMap opT, g t = g' t) : l.map (aeval g) = l.map (aeval g') :=
  List.map_congr_left fun x hx => aeval_agree fun t ht => h t (List.mem_flatMap.2 ⟨x, hx, ht⟩)
theorem opt_agree {x : Option Operand} (h : ∀ t ∈ optT x, g t = g' t) : x.map (aeval g) = x.map (aeval g') := by
  cases x with
  | none => rfl
  | some x => simp only [Option.map_some]; rw [aeval_agree h]
theorem buildA_agree : ∀ (ps : List (Nat × Nat × Operand)) (cs : List AVal), (∀ t ∈ ps.flatMap (fun p => opT p.2.2), g t = g' t) → buildA (aeval g) cs ps = buildA (aeval g') cs ps
  | [], _, _ => rfl
  | (off, sz, x) :: r, cs, h => by
    have hx : aeval g x = aeval g' x := aeval_agree fun t ht => h t (by simp [ht])
    unfold buildA
    rw [hx]
    split
    · split
      · exact buildA_agree r _ fun t ht => h t (by simp at ht ⊢; exact .inr ht)
      · rfl
    · rfl
theorem buildRows_agree (sz : Nat) : ∀ (ps : List (Nat × Operand)) (xs : List (List AVal)), (∀ t ∈ ps.flatMap (fun p => opT p.2), g t = g' t) → buildRows (aeval g) sz xs ps = buildRows (aeval g') sz xs ps
  | [], _, _ => rfl
  | (i, x) :: r, xs, h => by
    have hx : aeval g x = aeval g' x := aeval_agree fun t ht => h t (by simp [ht])
    unfold buildRows
    rw [hx]
    split
    · split
      · exact buildRows_agree sz r _ fun t ht => h t (by simp at ht ⊢; exact .inr ht)
      · rfl
    · rfl

theorem step_agree (op : AOp) (h : ∀ t ∈ reads op, g t = g' t) : stepA (aeval g) σ op = stepA (aeval g') σ op := by
  have one : ∀ x : Operand, (∀ t ∈ opT x, t ∈ reads op) → aeval g x = aeval g' x := fun x hx => aeval_agree fun t ht => h t (hx t ht)
  cases op with
  | build zs ps => simp only [stepA]; rw [buildA_agree ps zs h]
  | buildSlice sz len zs ps => simp only [stepA]; rw [buildRows_agree sz ps _ h]
  | makeFunc f l => simp only [stepA]; rw [map_agree h]
  | callF f l => simp only [stepA]; rw [map_agree h]
  | minmax b l => simp only [stepA]; rw [map_agree h]
  | callV x l =>
    have h1 := one x (fun t ht => by simp [reads, ht])
    have h2 : l.map (aeval g) = l.map (aeval g') := map_agree fun t ht => h t (List.mem_append_right _ ht)
    simp only [stepA]; rw [h1, h2]
  | slice sz x lo hi mx =>
    have h1 := one x (fun t ht => by simp [reads, ht])
    have h2 : lo.map (aeval g) = lo.map (aeval g') := opt_agree fun t ht => h t (by simp [reads, ht])
    have h3 : hi.map (aeval g) = hi.map (aeval g') := opt_agree fun t ht => h t (by simp [reads, ht])
    have h4 : mx.map (aeval g) = mx.map (aeval g') := opt_agree fun t ht => h t (by simp [reads, ht])
    simp only [stepA]; rw [h1, h2, h3, h4]
  | sliceStr x lo hi =>
    have h1 := one x (fun t ht => by simp [reads, ht])
    have h2 : lo.map (aeval g) = lo.map (aeval g') := opt_agree fun t ht => h t (by simp [reads, ht])
    have h3 : hi.map (aeval g) = hi.map (aeval g') := opt_agree fun t ht => h t (by simp [reads, ht])
    simp only [stepA]; rw [h1, h2, h3]
  | alloc zs => rfl
  | move x => simp only [stepA]; rw [one x (fun t ht => by simp [reads, ht])]
  | box x => simp only [stepA]; rw [one x (fun t ht => by simp [reads, ht])]
  | load a s x => simp only [stepA]; rw [one x (fun t ht => by simp [reads, ht])]
  | nilCheck x => simp only [stepA]; rw [one x (fun t ht => by simp [reads, ht])]
  | un o x => simp only [stepA]; rw [one x (fun t ht => by simp [reads, ht])]
  | convInt k x => simp only [stepA]; rw [one x (fun t ht => by simp [reads, ht])]
  | convStr x => simp only [stepA]; rw [one x (fun t ht => by simp [reads, ht])]
  | fieldAddr o x => simp only [stepA]; rw [one x (fun t ht => by simp [reads, ht])]
  | field a s o x => simp only [stepA]; rw [one x (fun t ht => by simp [reads, ht])]
  | extract x i => simp only [stepA]; rw [one x (fun t ht => by simp [reads, ht])]
  | lenS x => simp only [stepA]; rw [one x (fun t ht => by simp [reads, ht])]
  | lenStr x => simp only [stepA]; rw [one x (fun t ht => by simp [reads, ht])]
  | pick c x y => simp only [stepA]; rw [one c (fun t ht => by simp [reads, ht]), one x (fun t ht => by simp [reads, ht]), one y (fun t ht => by simp [reads, ht])]
  | store s x v => simp only [stepA]; rw [one x (fun t ht => by simp [reads, ht]), one v (fun t ht => by simp [reads, ht])]
  | bin o x y => simp only [stepA]; rw [one x (fun t ht => by simp [reads, ht]), one y (fun t ht => by simp [reads, ht])]
  | eqBool o x y => simp only [stepA]; rw [one x (fun t ht => by simp [reads, ht]), one y (fun t ht => by simp [reads, ht])]
  | eqPtr o x y => simp only [stepA]; rw [one x (fun t ht => by simp [reads, ht]), one y (fun t ht => by simp [reads, ht])]
  | eqSl o x y => simp only [stepA]; rw [one x (fun t ht => by simp [reads, ht]), one y (fun t ht => by simp [reads, ht])]
  | eqAgg o k x y => simp only [stepA]; rw [one x (fun t ht => by simp [reads, ht]), one y (fun t ht => by simp [reads, ht])]
  | makeSlice s b z l c => simp only [stepA]; rw [one l (fun t ht => by simp [reads, ht]), one c (fun t ht => by simp [reads, ht])]
  | indexAddrS s x i => simp only [stepA]; rw [one x (fun t ht => by simp [reads, ht]), one i (fun t ht => by simp [reads, ht])]
  | indexAddrA n s x i => simp only [stepA]; rw [one x (fun t ht => by simp [reads, ht]), one i (fun t ht => by simp [reads, ht])]
  | indexA n a s x i => simp only [stepA]; rw [one x (fun t ht => by simp [reads, ht]), one i (fun t ht => by simp [reads, ht])]
  | indexStr x i => simp only [stepA]; rw [one x (fun t ht => by simp [reads, ht]), one i (fun t ht => by simp [reads, ht])]
  | append s b z x y => simp only [stepA]; rw [one x (fun t ht => by simp [reads, ht]), one y (fun t ht => by simp [reads, ht])]
  | appendStr b z x y => simp only [stepA]; rw [one x (fun t ht => by simp [reads, ht]), one y (fun t ht => by simp [reads, ht])]
  | appendMk s b z x y => simp only [stepA]; rw [one x (fun t ht => by simp [reads, ht]), one y (fun t ht => by simp [reads, ht])]
  | bad => rfl
  | makeMap => rfl
  | lookup o a k z x i => simp only [stepA]; rw [one x (fun t ht => by simp [reads, ht]), one i (fun t ht => by simp [reads, ht])]
  | mapUpd a ks m k v => simp only [stepA]; rw [one m (fun t ht => by simp [reads, ht]), one k (fun t ht => by simp [reads, ht]), one v (fun t ht => by simp [reads, ht])]
  | mapDel a ks m k => simp only [stepA]; rw [one m (fun t ht => by simp [reads, ht]), one k (fun t ht => by simp [reads, ht])]
  | capS x => simp only [stepA]; rw [one x (fun t ht => by simp [reads, ht])]
end

/-! ### Classes -/
inductive Cl where
  | P | R | A | C | E
  deriving DecidableEq
def cls : AOp → Cl
  | .load _ _ _ | .lookup _ _ _ _ _ _ => .R
  | .alloc _ | .box _ | .buildSlice _ _ _ _ | .makeSlice _ _ _ _ _ | .makeMap => .A
  | .callF _ _ => .C
  | .store _ _ _ | .append _ _ _ _ _ | .appendStr _ _ _ _ | .callV _ _ | .eqSl _ _ _ | .mapUpd _ _ _ _ _ | .mapDel _ _ _ _ | .appendMk _ _ _ _ _ => .E
  | _ => .P
def clsOk : Cl → Cl → Bool
  | .P, _ | _, .P | .R, .R | .R, .A | .A, .R | .A, .A | .R, .C | .C, .R | .C, .A => true
  | _, _ => false

/-- What it does, its guard asked. -/
def resOf (o : AOper) (g : Nat → AVal) (σ : Store) : Res :=
  match guardA g o.g with
  | none => .stuck
  | some false => .val (.tup []) σ
  | some true => stepA (aeval g) σ o.op

section
variable {P : Program} {σ : Store} {g : Nat → AVal}
theorem wpOperD_res {o : AOper} {K : (Nat → AVal) → Store → Prop} : wpOperD P o K g σ = wpResD P (resOf o g σ) (fun v σ' => K (putD g o.d v) σ') σ := by
  unfold wpOperD resOf
  cases guardA g o.g with
  | none => rfl
  | some b => cases b <;> rfl

def FP (R : Store → Res) : Prop := ∃ q : Option AVal, ∀ σ, R σ = opt σ q
def FR (R : Store → Res) : Prop := (∀ σ, R σ = .stuck ∨ ∃ v, R σ = .val v σ) ∧ (∀ σ id ob v, σ.get id = none → R σ = .val v σ → R (σ.set id ob) = .val v (σ.set id ob)) ∧
  (∃ i0 : Nat, ∀ σ id ob v, id ≠ i0 → R (σ.set id ob) = .val v (σ.set id ob) → R σ = .val v σ)
def FA (R : Store → Res) : Prop := (∀ σ, R σ = .stuck) ∨ ∃ ob k, ∀ σ, R σ = .new ob k
def FC (R : Store → Res) : Prop := ∃ f args, ∀ σ, R σ = .call f args

theorem rowAt_set_ne {id id' ver : Nat} {ob : Obj} (h : id ≠ id') : rowAt (σ.set id' ob) id ver = rowAt σ id ver := by
  unfold rowAt
  rw [Store.get_set_ne _ _ h]

theorem fp_step {o : AOper} (h : cls o.op = .P) : FP (resOf o g) := by
  unfold FP resOf
  split
  · exact ⟨none, fun σ => rfl⟩
  · exact ⟨some (.tup []), fun σ => rfl⟩
  · generalize o.op = op at h
    cases op <;> simp [cls] at h
    all_goals simp only [stepA]
    all_goals first
      | exact ⟨_, fun σ => rfl⟩
      | (repeat' split) <;> first | exact ⟨none, fun σ => rfl⟩ | exact ⟨some _, fun σ => rfl⟩ | exact ⟨_, fun σ => rfl⟩

theorem fr_stuck : FR (fun _ => .stuck) := ⟨fun _ => .inl rfl, fun σ id ob v _ h => (by cases h), 0, fun σ id ob v _ h => (by cases h)⟩
theorem fr_const (v : AVal) : FR (fun σ => .val v σ) := ⟨fun _ => .inr ⟨_, rfl⟩, fun σ id ob v _ h => (by injection h with h; rw [h]), 0, fun σ id ob v _ h => (by injection h with h; rw [h])⟩

theorem lookR_val {ok ag : Bool} {ks : List Nat} {z m k v : AVal} {τ : Store} : lookR σ ok ag ks z m k = .val v τ ↔ σ = τ ∧ ∃ es r, mapEs σ m = some es ∧ lookK ag ks k es = some r ∧ lookV ok z r = v := by
  unfold lookR
  constructor
  · intro h
    split at h
    · rename_i es he
      split at h
      · rename_i r hr
        injection h with h1 h2
        exact ⟨h2, es, r, he, hr, h1⟩
      · cases h
    · cases h
  · rintro ⟨rfl, es, r, h1, h2, rfl⟩
    rw [h1]
    dsimp only
    rw [h2]
theorem fr_look (ok ag : Bool) (ks : List Nat) (z m k : AVal) : FR (fun σ => lookR σ ok ag ks z m k) := by
  have key : ∀ σ, lookR σ ok ag ks z m k = .stuck ∨ ∃ v, lookR σ ok ag ks z m k = .val v σ := fun σ => by
    unfold lookR
    split
    · split
      · exact .inr ⟨_, rfl⟩
      · exact .inl rfl
    · exact .inl rfl
  have same : ∀ (i0 : Nat), (∀ i, m = .map i → i = i0) → ∀ (σ : Store) id ob, id ≠ i0 → mapEs (σ.set id ob) m = mapEs σ m := fun i0 hm σ id ob hne => by
    cases m with
    | map i => simp only [mapEs]; rw [Store.get_set_ne _ _ (fun e => hne (e.symm.trans (hm i rfl)))]
    | _ => rfl
  have hi : ∃ i0 : Nat, ∀ i, m = .map i → i = i0 := by
    cases m with
    | map i => exact ⟨i, fun j h => by injection h with h; exact h.symm⟩
    | _ => exact ⟨0, fun j h => by cases h⟩
  obtain ⟨i0, hi0⟩ := hi
  refine ⟨key, fun σ id ob v hid h => ?_, i0, fun σ id ob v hid h => ?_⟩
  · obtain ⟨_, es, r, h1, h2, h3⟩ := lookR_val.1 h
    refine lookR_val.2 ⟨rfl, es, r, ?_, h2, h3⟩
    cases m with
    | map i =>
      have hne : i ≠ id := fun e => by
        subst e
        simp [mapEs, hid] at h1
      simp only [mapEs] at h1 ⊢
      rw [Store.get_set_ne _ _ hne]
      exact h1
    | _ => exact h1
  · obtain ⟨_, es, r, h1, h2, h3⟩ := lookR_val.1 h
    exact lookR_val.2 ⟨rfl, es, r, by rw [same i0 hi0 σ id ob hid] at h1; exact h1, h2, h3⟩

theorem fr_step {o : AOper} (h : cls o.op = .R) : FR (resOf o g) := by
  unfold resOf
  split
  · exact fr_stuck
  · exact fr_const _
  · generalize o.op = op at h
    cases op <;> simp [cls] at h
    case lookup ok ag ks z x i => exact fr_look ok ag ks z _ _
    rename_i agg sz x
    simp only [stepA]
    cases hx : aeval g x with
    | ptr i ver e k =>
      simp only
      refine ⟨fun σ => ?_, fun σ id ob v hid h => ?_, i, fun σ id ob v hid h => ?_⟩
      · dsimp only
        split
        · split
          · unfold opt
            split
            · exact .inr ⟨_, rfl⟩
            · exact .inl rfl
          · exact .inl rfl
        · exact .inl rfl
      · have hne : i ≠ id := fun e => by
          subst e
          simp [rowAt, hid] at h
        dsimp only at h ⊢
        rw [rowAt_set_ne hne]
        split at h
        · split at h
          · unfold opt at h ⊢
            split at h
            · injection h with h
              rename_i hp
              rw [h]
            · cases h
          · cases h
        · cases h
      · dsimp only at h ⊢
        rw [rowAt_set_ne (fun e => hid e.symm)] at h
        split at h
        · split at h
          · unfold opt at h ⊢
            split at h
            · injection h with h
              rw [h]
            · cases h
          · cases h
        · cases h
    | iptr cs k =>
      simp only
      refine ⟨fun σ => ?_, fun σ id ob v hid h => ?_, 0, fun σ id ob v hid h => ?_⟩
      · unfold opt
        split
        · exact .inr ⟨_, rfl⟩
        · exact .inl rfl
      · unfold opt at h ⊢
        split at h
        · injection h with h; rw [h]
        · cases h
      · unfold opt at h ⊢
        split at h
        · injection h with h; rw [h]
        · cases h
    | _ => exact fr_stuck

theorem fa_step {o : AOper} (h : cls o.op = .A) : FA (resOf o g) ∨ FP (resOf o g) := by
  unfold FA FP resOf
  split
  · exact .inl (.inl fun σ => rfl)
  · exact .inr ⟨some (.tup []), fun σ => rfl⟩
  · left
    generalize o.op = op at h
    cases op <;> simp [cls] at h
    all_goals simp only [stepA]
    all_goals first
      | exact .inr ⟨_, _, fun σ => rfl⟩
      | (repeat' split) <;> first | exact .inl fun σ => rfl | exact .inr ⟨_, _, fun σ => rfl⟩
theorem fc_step {o : AOper} (h : cls o.op = .C) : FC (resOf o g) ∨ FP (resOf o g) := by
  unfold FC FP resOf
  split
  · exact .inr ⟨none, fun σ => rfl⟩
  · exact .inr ⟨some (.tup []), fun σ => rfl⟩
  · left
    generalize o.op = op at h
    cases op <;> simp [cls] at h
    exact ⟨_, _, fun σ => rfl⟩

/-! ### A snapshot is the same where something new lies besides -/
theorem mapO_congr {α β : Type} {f f' : α → Option β} : ∀ {l : List α} {q : List β}, (∀ x ∈ l, ∀ y, f x = some y → f' x = some y) → mapO f l = some q → mapO f' l = some q
  | [], q, _, h => h
  | x :: r, q, hf, h => by
    simp only [mapO] at h ⊢
    split at h
    · rename_i y s hx hr
      rw [hf x (by simp) y hx, mapO_congr (fun z hz => hf z (by simp [hz])) hr]
      exact h
    · cases h
theorem mapO_all {α β : Type} {f : α → Option β} : ∀ {l : List α} {q : List β}, mapO f l = some q → ∀ x ∈ l, ∃ y, f x = some y
  | x :: r, q, h, z, hz => by
    simp only [mapO] at h
    split at h
    · rename_i y s hx hr
      rcases List.mem_cons.1 hz with rfl | hz
      · exact ⟨y, hx⟩
      · exact mapO_all hr z hz
    · cases h

theorem snap_set {id : Nat} {ob : Obj} (hid : σ.get id = none) : ∀ (n : Nat) (x y : AVal), snap n σ x = some y → snap n (σ.set id ob) x = some y ∧ reach n (σ.set id ob) x = reach n σ x := by
  intro n
  induction n with
  | zero => intro x y h; cases h
  | succ n ih =>
    have row : ∀ i ver r, rowAt σ i ver = some r → rowAt (σ.set id ob) i ver = some r := fun i ver r h => by
      rw [rowAt_set_ne]
      · exact h
      · intro e; subst e; simp [rowAt, hid] at h
    have many : ∀ (l q : List AVal), mapO (snap n σ) l = some q → mapO (snap n (σ.set id ob)) l = some q ∧ l.flatMap (reach n (σ.set id ob)) = l.flatMap (reach n σ) := fun l q h => by
      refine ⟨mapO_congr (fun x _ y hy => (ih x y hy).1) h, ?_⟩
      have : ∀ x ∈ l, reach n (σ.set id ob) x = reach n σ x := fun x hx => by
        obtain ⟨y, hy⟩ := mapO_all h x hx
        exact (ih x y hy).2
      clear h
      induction l with
      | nil => rfl
      | cons x l ihl => rw [List.flatMap_cons, List.flatMap_cons, this x (by simp), ihl (fun z hz => this z (by simp [hz]))]
    intro x y h
    cases x with
    | sl i ver off len sz =>
      simp only [snap] at h
      split at h
      · rename_i q s xs hr
        split at h
        · rename_i hc
          obtain ⟨ys, hm, rfl⟩ := Option.map_eq_some_iff.1 h
          have hr' := row _ _ _ hr
          refine ⟨?_, ?_⟩
          · simp only [snap, hr']
            rw [if_pos hc, mapO_congr (fun c hc q hq => (many c q hq).1) hm]
            rfl
          · simp only [reach, hr', hr]
            congr 1
            have : ∀ c ∈ (xs.drop off).take len, c.flatMap (reach n (σ.set id ob)) = c.flatMap (reach n σ) := fun c hc => by
              obtain ⟨q, hq⟩ := mapO_all hm c hc
              exact (many c q hq).2
            revert this
            generalize (xs.drop off).take len = l
            intro this
            clear hm
            induction l with
            | nil => rfl
            | cons x l ihl => rw [List.flatMap_cons, List.flatMap_cons, this x (by simp), ihl (fun z hz => this z (by simp [hz]))]
        · cases h
      · cases h
    | ptr i ver e k =>
      simp only [snap] at h
      split at h
      · rename_i q s xs hr
        have hr' := row _ _ _ hr
        split at h
        · rename_i c hc
          obtain ⟨ys, hm, rfl⟩ := Option.map_eq_some_iff.1 h
          refine ⟨?_, ?_⟩
          · simp only [snap, hr', hc, (many c ys hm).1]
            rfl
          · simp only [reach, hr', hr, hc, (many c ys hm).2]
        · cases h
      · cases h
    | func f cap =>
      simp only [snap] at h
      obtain ⟨ys, hm, rfl⟩ := Option.map_eq_some_iff.1 h
      exact ⟨by simp only [snap, (many cap ys hm).1]; rfl, by simp only [reach, (many cap ys hm).2]⟩
    | agg cs =>
      simp only [snap] at h
      obtain ⟨ys, hm, rfl⟩ := Option.map_eq_some_iff.1 h
      exact ⟨by simp only [snap, (many cs ys hm).1]; rfl, by simp only [reach, (many cs ys hm).2]⟩
    | tup cs =>
      simp only [snap] at h
      obtain ⟨ys, hm, rfl⟩ := Option.map_eq_some_iff.1 h
      exact ⟨by simp only [snap, (many cs ys hm).1]; rfl, by simp only [reach, (many cs ys hm).2]⟩
    | map i => simp only [snap] at h; cases h
    | _ => exact ⟨h, rfl⟩

theorem snapL_set {id : Nat} {ob : Obj} (hid : σ.get id = none) {n : Nat} {args xs : List AVal} (h : snapL n σ args = some xs) : snapL n (σ.set id ob) args = some xs ∧ reachL n (σ.set id ob) args = reachL n σ args := by
  refine ⟨mapO_congr (fun x _ y hy => (snap_set hid n x y hy).1) h, ?_⟩
  have : ∀ x ∈ args, reach n (σ.set id ob) x = reach n σ x := fun x hx => by
    obtain ⟨y, hy⟩ := mapO_all h x hx
    exact (snap_set hid n x y hy).2
  unfold reachL
  clear h
  induction args with
  | nil => rfl
  | cons x l ihl => rw [List.flatMap_cons, List.flatMap_cons, this x (by simp), ihl (fun z hz => this z (by simp [hz]))]

/-! ### Two may change places -/
theorem opt_wp {q : Option AVal} {K : AVal → Store → Prop} : wpResD P (opt σ q) K σ ↔ ∃ v, q = some v ∧ K v σ := by
  cases q with
  | none => simp [opt, wpResD]
  | some v => simp [opt, wpResD]

theorem swap_p {R1 R2 : Store → Res} {K : AVal → AVal → Store → Prop} (h1 : FP R1) (h : wpResD P (R1 σ) (fun v1 σ1 => wpResD P (R2 σ1) (fun v2 σ2 => K v1 v2 σ2) σ1) σ) : wpResD P (R2 σ) (fun v2 σ2 => wpResD P (R1 σ2) (fun v1 σ1 => K v1 v2 σ1) σ2) σ := by
  obtain ⟨q, hq⟩ := h1
  rw [hq, opt_wp] at h
  obtain ⟨v, rfl, h⟩ := h
  refine wpResD_mono (fun v2 σ2 hk => ?_) h
  rw [hq]
  exact hk

theorem swap_p' {R1 R2 : Store → Res} {K : AVal → AVal → Store → Prop} (h2 : FP R2) (h : wpResD P (R1 σ) (fun v1 σ1 => wpResD P (R2 σ1) (fun v2 σ2 => K v1 v2 σ2) σ1) σ) : wpResD P (R2 σ) (fun v2 σ2 => wpResD P (R1 σ2) (fun v1 σ1 => K v1 v2 σ1) σ2) σ := by
  obtain ⟨q, hq⟩ := h2
  rw [hq, opt_wp]
  have key : ∀ v1 σ1, wpResD P (R2 σ1) (fun v2 σ2 => K v1 v2 σ2) σ1 → ∃ v, q = some v ∧ K v1 v σ1 := fun v1 σ1 h => by
    rw [hq, opt_wp] at h
    exact h
  cases q with
  | none =>
    have h' := wpResD_mono (K' := fun _ _ => False) (fun v1 σ1 hk => by obtain ⟨v, hv, _⟩ := key v1 σ1 hk; cases hv) h
    generalize R1 σ = r1 at h'
    cases r1 with
    | stuck => exact h'.elim
    | val v σ' => exact h'.elim
    | new ob k =>
      obtain ⟨N, hN⟩ := σ.fresh
      exact (h' N (hN N (Nat.le_refl _))).elim
    | call f args => obtain ⟨_, _, _, _, _, _, hf⟩ := h'; exact hf.elim
    | both x y => exact h'.1.elim
  | some v =>
    refine ⟨v, rfl, wpResD_mono (fun v1 σ1 hk => ?_) h⟩
    obtain ⟨v', hv, hk'⟩ := key v1 σ1 hk
    cases hv
    exact hk'

theorem swap_kinds {R1 R2 : Store → Res} {K : AVal → AVal → Store → Prop} (hk : (FR R1 ∧ FR R2) ∨ (FR R1 ∧ FA R2) ∨ (FA R1 ∧ FR R2) ∨ (FA R1 ∧ FA R2) ∨ (FR R1 ∧ FC R2) ∨ (FC R1 ∧ FR R2) ∨ (FC R1 ∧ FA R2))
    (h : wpResD P (R1 σ) (fun v1 σ1 => wpResD P (R2 σ1) (fun v2 σ2 => K v1 v2 σ2) σ1) σ) : wpResD P (R2 σ) (fun v2 σ2 => wpResD P (R1 σ2) (fun v1 σ1 => K v1 v2 σ1) σ2) σ := by
  rcases hk with ⟨h1, h2⟩ | ⟨h1, h2⟩ | ⟨h1, h2⟩ | ⟨h1, h2⟩ | ⟨h1, h2⟩ | ⟨h1, h2⟩ | ⟨h1, h2⟩
  · rcases h1.1 σ with e | ⟨v1, e⟩
    · rw [e] at h; exact h.elim
    · rw [e] at h
      rcases h2.1 σ with e2 | ⟨v2, e2⟩
      · simp only [wpResD, e2] at h
      · simp only [wpResD, e2, e] at h ⊢
        exact h
  · rcases h1.1 σ with e | ⟨v1, e⟩
    · rw [e] at h; exact h.elim
    · rw [e] at h
      rcases h2 with h2 | ⟨ob, k, h2⟩
      · simp only [wpResD, h2] at h
      · simp only [wpResD, h2] at h ⊢
        intro id hid
        rw [h1.2.1 σ id ob v1 hid e]
        exact h id hid
  · rcases h1 with h1 | ⟨ob, k, h1⟩
    · rw [h1] at h; exact h.elim
    · rw [h1] at h
      simp only [wpResD] at h
      obtain ⟨i0, hi0⟩ := h2.2.2
      obtain ⟨N, hN⟩ := σ.fresh
      have hid := hN (max N (i0 + 1)) (by omega)
      have hh := h _ hid
      rcases h2.1 (σ.set (max N (i0 + 1)) ob) with e | ⟨v2, e⟩
      · rw [e] at hh; exact hh.elim
      · have e2 := hi0 σ _ ob v2 (by omega) e
        rw [e2]
        simp only [wpResD, h1]
        intro id hid'
        have := h id hid'
        rw [h2.2.1 σ id ob v2 hid' e2] at this
        exact this
  · rcases h1 with h1 | ⟨ob1, k1, h1⟩
    · rw [h1] at h; exact h.elim
    · rcases h2 with h2 | ⟨ob2, k2, h2⟩
      · rw [h1] at h
        simp only [wpResD, h2] at h
        obtain ⟨N, hN⟩ := σ.fresh
        exact (h N (hN N (Nat.le_refl _))).elim
      · simp only [wpResD, h1, h2] at h ⊢
        intro id2 hid2 id1 hid1
        have hne : id1 ≠ id2 := fun e => by subst e; simp at hid1
        rw [Store.get_set_ne _ _ hne] at hid1
        have := h id1 hid1 id2 (by rw [Store.get_set_ne _ _ (fun e => hne e.symm)]; exact hid2)
        rwa [Store.set_comm _ hne] at this
  · rcases h1.1 σ with e | ⟨v1, e⟩
    · rw [e] at h; exact h.elim
    · rw [e] at h
      obtain ⟨f, args, h2⟩ := h2
      simp only [wpResD, h2] at h ⊢
      obtain ⟨n, xs, r, p1, p2, p3, p4⟩ := h
      refine ⟨n, xs, r, p1, p2, p3, ?_⟩
      rw [e]
      exact p4
  · obtain ⟨f, args, h1⟩ := h1
    rw [h1] at h
    simp only [wpResD] at h
    obtain ⟨n, xs, r, p1, p2, p3, p4⟩ := h
    rcases h2.1 σ with e | ⟨v2, e⟩
    · rw [e] at p4; exact p4.elim
    · rw [e] at p4 ⊢
      simp only [wpResD, h1] at p4 ⊢
      exact ⟨n, xs, r, p1, p2, p3, p4⟩
  · obtain ⟨f, args, h1⟩ := h1
    rw [h1] at h
    simp only [wpResD] at h
    obtain ⟨n, xs, r, p1, p2, p3, p4⟩ := h
    rcases h2 with h2 | ⟨ob, k, h2⟩
    · rw [h2] at p4; exact p4.elim
    · rw [h2] at p4 ⊢
      simp only [wpResD, h1] at p4 ⊢
      intro id hid
      obtain ⟨q1, q2⟩ := snapL_set (ob := ob) hid p1
      exact ⟨n, xs, r, q1, p2, p3.imp (fun h j hj => by
        rw [q2] at hj
        obtain ⟨o, o1, o2⟩ := h j hj
        exact ⟨o, by rw [Store.get_set_ne _ _ (fun e => by rw [e, hid] at o1; cases o1), o1], o2⟩) (fun h => h), p4 id hid⟩

def slotOf : Option (Nat × Bool) → List Nat
  | some (s, _) => [s]
  | none => []
def looks (o : AOper) : List Nat := reads o.op ++ slotOf o.g
def apartT (x y : AOper) : Bool :=
  (match x.d with
   | some d => !(looks y).contains d && y.d != some d
   | none => true) &&
  (match y.d with
   | some d => !(looks x).contains d
   | none => true)
def indep (x y : AOper) : Bool := apartT x y && clsOk (cls x.op) (cls y.op)

theorem res_put {o : AOper} {d : Option Nat} {v : AVal} (h : ∀ e, d = some e → e ∉ looks o) : resOf o (putD g d v) σ = resOf o g σ := by
  cases d with
  | none => rfl
  | some e =>
    have he := h e rfl
    simp only [looks, List.mem_append, not_or] at he
    have hg : guardA (putD g (some e) v) o.g = guardA g o.g := by
      cases hgg : o.g with
      | none => rfl
      | some sw =>
        obtain ⟨s, b⟩ := sw
        have : s ≠ e := fun x => he.2 (by rw [hgg]; simp [slotOf, x])
        simp [guardA, putD, put, this]
    unfold resOf
    rw [hg]
    split
    · rfl
    · rfl
    · refine step_agree _ fun t ht => ?_
      have : t ≠ e := fun x => he.1 (x ▸ ht)
      simp [putD, put, this]

theorem putD_comm {d1 d2 : Option Nat} {v1 v2 : AVal} (h : ∀ e, d1 = some e → d2 ≠ some e) : putD (putD g d1 v1) d2 v2 = putD (putD g d2 v2) d1 v1 := by
  cases d1 with
  | none => rfl
  | some a =>
    cases d2 with
    | none => rfl
    | some b =>
      have hne : b ≠ a := fun x => h a rfl (x ▸ rfl)
      funext j
      simp only [putD, put]
      by_cases h1 : j = b
      · subst h1; simp [hne]
      · simp [h1]

theorem swap_ok {o1 o2 : AOper} {K : (Nat → AVal) → Store → Prop} (hi : indep o1 o2 = true) (h : wpOperD P o1 (wpOperD P o2 K) g σ) : wpOperD P o2 (wpOperD P o1 K) g σ := by
  simp only [indep, Bool.and_eq_true] at hi
  obtain ⟨hap, hcl⟩ := hi
  simp only [apartT, Bool.and_eq_true] at hap
  have a1 : ∀ e, o1.d = some e → e ∉ looks o2 ∧ o2.d ≠ some e := fun e he => by
    have := hap.1
    rw [he] at this
    simpa using this
  have a2 : ∀ e, o2.d = some e → e ∉ looks o1 := fun e he => by
    have := hap.2
    rw [he] at this
    simpa using this
  simp only [wpOperD_res] at h ⊢
  have e1 : ∀ v σ', resOf o2 (putD g o1.d v) σ' = resOf o2 g σ' := fun v σ' => res_put fun e he => (a1 e he).1
  have e2 : ∀ v σ', resOf o1 (putD g o2.d v) σ' = resOf o1 g σ' := fun v σ' => res_put fun e he => a2 e he
  simp only [e1] at h
  simp only [e2]
  have hc : ∀ v1 v2, putD (putD g o1.d v1) o2.d v2 = putD (putD g o2.d v2) o1.d v1 := fun v1 v2 => putD_comm fun e he => (a1 e he).2
  simp only [hc] at h
  -- by their kinds
  have viaP1 : FP (resOf o1 g) → wpResD P (resOf o2 g σ) (fun v2 σ2 => wpResD P (resOf o1 g σ2) (fun v1 σ1 => K (putD (putD g o2.d v2) o1.d v1) σ1) σ2) σ := fun hp => swap_p (R1 := resOf o1 g) (R2 := resOf o2 g) (K := fun v1 v2 σ => K (putD (putD g o2.d v2) o1.d v1) σ) hp h
  have viaP2 : FP (resOf o2 g) → wpResD P (resOf o2 g σ) (fun v2 σ2 => wpResD P (resOf o1 g σ2) (fun v1 σ1 => K (putD (putD g o2.d v2) o1.d v1) σ1) σ2) σ := fun hp => swap_p' (R1 := resOf o1 g) (R2 := resOf o2 g) (K := fun v1 v2 σ => K (putD (putD g o2.d v2) o1.d v1) σ) hp h
  have viaK := fun hk => swap_kinds (P := P) (σ := σ) (R1 := resOf o1 g) (R2 := resOf o2 g) (K := fun v1 v2 σ => K (putD (putD g o2.d v2) o1.d v1) σ) hk h
  cases c1 : cls o1.op <;> cases c2 : cls o2.op <;> rw [c1, c2] at hcl <;> simp [clsOk] at hcl
  all_goals first
    | exact viaP1 (fp_step c1)
    | exact viaP2 (fp_step c2)
    | skip
  · exact viaK (.inl ⟨fr_step c1, fr_step c2⟩)
  · rcases fa_step (g := g) c2 with k | k
    · exact viaK (.inr (.inl ⟨fr_step c1, k⟩))
    · exact viaP2 k
  · rcases fc_step (g := g) c2 with k | k
    · exact viaK (.inr (.inr (.inr (.inr (.inl ⟨fr_step c1, k⟩)))))
    · exact viaP2 k
  · rcases fa_step (g := g) c1 with k | k
    · exact viaK (.inr (.inr (.inl ⟨k, fr_step c2⟩)))
    · exact viaP1 k
  · rcases fa_step (g := g) c1 with k | k
    · rcases fa_step (g := g) c2 with k2 | k2
      · exact viaK (.inr (.inr (.inr (.inl ⟨k, k2⟩))))
      · exact viaP2 k2
    · exact viaP1 k
  · rcases fc_step (g := g) c1 with k | k
    · exact viaK (.inr (.inr (.inr (.inr (.inr (.inl ⟨k, fr_step c2⟩))))))
    · exact viaP1 k
  · rcases fc_step (g := g) c1 with k | k
    · rcases fa_step (g := g) c2 with k2 | k2
      · exact viaK (.inr (.inr (.inr (.inr (.inr (.inr ⟨k, k2⟩))))))
      · exact viaP2 k2
    · exact viaP1 k
end
end Go.Ab

/- Regions whose order is open, where some operations meddle with each other: every order that makes a difference is run. -/
set_option linter.unusedVariables false
set_option linter.unusedSimpArgs false
namespace Go.Ab

section
variable {P : Program} {σ : Store} {g : Nat → AVal}

def idxW (P : Program) (aops : List AOper) (K : (Nat → AVal) → Store → Prop) : List Nat → (Nat → AVal) → Store → Prop
  | [], g, σ => K g σ
  | i :: r, g, σ => match aops[i]? with
    | some o => wpOperD P o (idxW P aops K r) g σ
    | none => False

theorem idx_of_ops {aops : List AOper} {K : (Nat → AVal) → Store → Prop} : ∀ (r s : Nat) (g : Nat → AVal) (σ : Store), s + r = aops.length → wpOpsD P K (aops.drop s) g σ → idxW P aops K (List.range' s r) g σ
  | 0, s, g, σ, hs, h => by
    rw [List.drop_eq_nil_of_le (by omega)] at h
    exact h
  | r + 1, s, g, σ, hs, h => by
    have hlt : s < aops.length := by omega
    rw [List.drop_eq_getElem_cons hlt] at h
    rw [List.range'_succ]
    simp only [idxW, List.getElem?_eq_getElem hlt]
    exact wpOperD_mono (fun g σ' hk => idx_of_ops r (s + 1) g σ' (by omega) hk) h

theorem bubble {aops : List AOper} {K : (Nat → AVal) → Store → Prop} {i : Nat} {o : AOper} (hi : aops[i]? = some o) (l2 : List Nat) : ∀ (l1 : List Nat) (g : Nat → AVal) (σ : Store), (∀ k ∈ l1, ∀ q, aops[k]? = some q → indep q o = true) → idxW P aops K (l1 ++ i :: l2) g σ → wpOperD P o (idxW P aops K (l1 ++ l2)) g σ
  | [], g, σ, _, h => by simpa [idxW, hi] using h
  | k :: l1, g, σ, hind, h => by
    simp only [List.cons_append, idxW] at h
    cases hk : aops[k]? with
    | none => rw [hk] at h; exact h.elim
    | some q =>
      rw [hk] at h
      have h' := wpOperD_mono (fun g σ' hh => bubble hi l2 l1 g σ' (fun k hk => hind k (by simp [hk])) hh) h
      have := swap_ok (hind k (by simp) q hk) h'
      refine wpOperD_mono (fun g σ' hh => ?_) this
      simp only [List.cons_append, idxW, hk]
      exact hh

/-- One order stands for all that differ from it by operations that do not meddle. -/
theorem ext_of_one {aops : List AOper} {K : (Nat → AVal) → Store → Prop} (rk : Nat → Nat) : ∀ (L L0 : List Nat) (g : Nat → AVal) (σ : Store), L.Perm L0 → L.Nodup → (∀ i ∈ L, ∃ o, aops[i]? = some o) → L.Pairwise (fun x y => rk x < rk y) →
    L0.Pairwise (fun k j => rk k < rk j ∨ ∀ q o, aops[k]? = some q → aops[j]? = some o → indep q o = true) → idxW P aops K L0 g σ → idxW P aops K L g σ
  | [], L0, g, σ, hp, _, _, _, _, h => by
    have : L0 = [] := List.Perm.nil_eq hp ▸ rfl
    rw [this] at h; exact h
  | i :: L, L0, g, σ, hp, hnd, hex, hrk, hpr, h => by
    obtain ⟨l1, l2, rfl⟩ := List.append_of_mem (hp.subset (List.mem_cons_self))
    obtain ⟨o, ho⟩ := hex i (by simp)
    have hp' : L.Perm (l1 ++ l2) := (hp.trans List.perm_middle).cons_inv
    rw [List.nodup_cons] at hnd
    rw [List.pairwise_cons] at hrk
    have hb := bubble ho l2 l1 g σ (fun k hk q hq => by
      have hkL : k ∈ L := hp'.symm.subset (by simp [hk])
      have h1 := hrk.1 k hkL
      rcases (List.pairwise_append.1 hpr).2.2 k hk i (by simp) with h2 | h2
      · omega
      · exact h2 q o hq ho) h
    simp only [idxW, ho]
    refine wpOperD_mono (fun g' σ' hh => ext_of_one rk L (l1 ++ l2) g' σ' hp' hnd.2 (fun j hj => hex j (by simp [hj])) hrk.2 ?_ hh) hb
    rw [List.pairwise_append] at hpr ⊢
    exact ⟨hpr.1, (List.pairwise_cons.1 hpr.2.1).2, fun x hx y hy => hpr.2.2 x hx y (by simp [hy])⟩

/-! ### The orders that are run -/
inductive Tree where
  | leaf (l : List Nat)
  | split (a b : Nat) (x y : Tree)
  | trans (a b c : Nat) (x : Tree)
def pickO (aops : List AOper) (l : List Nat) : List AOper := l.filterMap fun i => aops[i]?
def wpTree (P : Program) (aops : List AOper) (K : (Nat → AVal) → Store → Prop) : Tree → (Nat → AVal) → Store → Prop
  | .leaf l, g, σ => wpOpsD P K (pickO aops l) g σ
  | .split _ _ x y, g, σ => wpTree P aops K x g σ ∧ wpTree P aops K y g σ
  | .trans _ _ _ x, g, σ => wpTree P aops K x g σ

theorem idx_of_pick {aops : List AOper} {K : (Nat → AVal) → Store → Prop} : ∀ (l : List Nat) (g : Nat → AVal) (σ : Store), (∀ i ∈ l, ∃ o, aops[i]? = some o) → wpOpsD P K (pickO aops l) g σ → idxW P aops K l g σ
  | [], g, σ, _, h => h
  | i :: l, g, σ, hex, h => by
    obtain ⟨o, ho⟩ := hex i (by simp)
    simp only [pickO, List.filterMap_cons, ho] at h
    simp only [idxW, ho]
    exact wpOperD_mono (fun g' σ' hh => idx_of_pick l g' σ' (fun j hj => hex j (by simp [hj])) hh) h

section
variable (ops : List AOper) (A : List Nat)
def known2 (X : List (Nat × Nat)) (a b : Nat) : Bool := X.contains (a, b) || (A.getD b 0).testBit a
def pairsOk (X : List (Nat × Nat)) : List Nat → Bool
  | [] => true
  | k :: r => (r.all fun j => known2 A X k j || (match ops[k]?, ops[j]? with | some q, some o => indep q o | _, _ => false)) && pairsOk X r
def treeOk (X : List (Nat × Nat)) : Tree → Bool
  | .leaf l => decide (l.length = ops.length) && (List.range ops.length).all (fun i => l.contains i) && pairsOk ops A X l
  | .split a b x y => decide (a < ops.length) && decide (b < ops.length) && decide (a ≠ b) && treeOk ((a, b) :: X) x && treeOk ((b, a) :: X) y
  | .trans a b c x => known2 A X a b && known2 A X b c && treeOk ((a, c) :: X) x
def noCall (o : AOper) : Bool := match o.op with
  | .callF _ _ | .callV _ _ => false
  | _ => true
end

theorem perm_cover : ∀ (r l : List Nat), r.Nodup → (∀ i ∈ r, i ∈ l) → l.length ≤ r.length → l.Perm r
  | [], l, _, _, h => by
    have : l = [] := List.eq_nil_of_length_eq_zero (by simpa using h)
    rw [this]
  | a :: r, l, hnd, hs, h => by
    obtain ⟨l1, l2, rfl⟩ := List.append_of_mem (hs a (by simp))
    rw [List.nodup_cons] at hnd
    refine List.perm_middle.trans (List.Perm.cons a (perm_cover r (l1 ++ l2) hnd.2 (fun i hi => ?_) (by simp at h ⊢; omega)))
    have := hs i (by simp [hi])
    simp only [List.mem_append, List.mem_cons] at this ⊢
    rcases this with h | h | h
    · exact .inl h
    · exact absurd (h ▸ hi) hnd.1
    · exact .inr h
theorem perm_of_cover {l : List Nat} {n : Nat} (h1 : l.length = n) (h2 : ∀ i < n, i ∈ l) : l.Perm (List.range n) :=
  perm_cover _ _ List.nodup_range (fun i hi => h2 i (by simpa using hi)) (by simp [h1])

theorem known2_spec {A : List Nat} {X : List (Nat × Nat)} {rk : Nat → Nat} (hA : ∀ j k, (A.getD j 0).testBit k = true → rk k < rk j) (hX : ∀ p ∈ X, rk p.1 < rk p.2) {a b : Nat} (h : known2 A X a b = true) : rk a < rk b := by
  unfold known2 at h
  rcases Bool.or_eq_true_iff.1 h with h | h
  · exact hX (a, b) (by simpa using h)
  · exact hA b a h

theorem pairsOk_spec {ops : List AOper} {A : List Nat} {X : List (Nat × Nat)} {rk : Nat → Nat} (hA : ∀ j k, (A.getD j 0).testBit k = true → rk k < rk j) (hX : ∀ p ∈ X, rk p.1 < rk p.2) : ∀ {l : List Nat}, pairsOk ops A X l = true →
    l.Pairwise (fun k j => rk k < rk j ∨ ∀ q o, ops[k]? = some q → ops[j]? = some o → indep q o = true)
  | [], _ => List.Pairwise.nil
  | k :: r, h => by
    simp only [pairsOk, Bool.and_eq_true, List.all_eq_true] at h
    refine List.pairwise_cons.2 ⟨fun j hj => ?_, pairsOk_spec hA hX h.2⟩
    rcases Bool.or_eq_true_iff.1 (h.1 j hj) with h1 | h1
    · exact .inl (known2_spec hA hX h1)
    · refine .inr fun q o hq ho => ?_
      rw [hq, ho] at h1
      exact h1

theorem tree_all {ops : List AOper} {A : List Nat} {K : (Nat → AVal) → Store → Prop} {L : List Nat} (hL : L.Perm (List.range ops.length)) (hA : ∀ j k, (A.getD j 0).testBit k = true → L.idxOf k < L.idxOf j) :
    ∀ (T : Tree) (X : List (Nat × Nat)) (g : Nat → AVal) (σ : Store), (∀ p ∈ X, L.idxOf p.1 < L.idxOf p.2) → treeOk ops A X T = true → wpTree P ops K T g σ → idxW P ops K L g σ
  | .leaf l, X, g, σ, hX, h, hw => by
    simp only [treeOk, Bool.and_eq_true, decide_eq_true_eq, List.all_eq_true, List.mem_range] at h
    have hp := perm_of_cover h.1.1 (fun i hi => by simpa using h.1.2 i hi)
    have hnd : L.Nodup := hL.nodup_iff.2 List.nodup_range
    have hex : ∀ i ∈ L, ∃ o, ops[i]? = some o := fun i hi => by
      have : i < ops.length := by simpa using hL.subset hi
      exact ⟨_, List.getElem?_eq_getElem this⟩
    refine ext_of_one (fun i => L.idxOf i) L l g σ (hL.trans hp.symm) hnd hex ?_ (pairsOk_spec hA hX h.2) (idx_of_pick l g σ (fun i hi => hex i (hL.symm.subset (hp.subset hi))) hw)
    rw [List.pairwise_iff_getElem]
    intro i j hi hj hij
    rw [hnd.idxOf_getElem, hnd.idxOf_getElem]
    exact hij
  | .split a b x y, X, g, σ, hX, h, hw => by
    simp only [treeOk, Bool.and_eq_true, decide_eq_true_eq] at h
    obtain ⟨⟨⟨⟨ha, hb⟩, hab⟩, h1⟩, h2⟩ := h
    have ma : a ∈ L := hL.symm.subset (by simpa using ha)
    have mb : b ∈ L := hL.symm.subset (by simpa using hb)
    have hne : L.idxOf a ≠ L.idxOf b := fun e => hab (by
      have e1 := List.getElem_idxOf (List.idxOf_lt_length_of_mem ma)
      have e2 := List.getElem_idxOf (List.idxOf_lt_length_of_mem mb)
      rw [← e1, ← e2]
      simp only [e])
    by_cases hlt : L.idxOf a < L.idxOf b
    · exact tree_all hL hA x _ g σ (fun p hp => by rcases List.mem_cons.1 hp with rfl | hp; exact hlt; exact hX p hp) h1 hw.1
    · exact tree_all hL hA y _ g σ (fun p hp => by rcases List.mem_cons.1 hp with rfl | hp; (show L.idxOf b < L.idxOf a); omega; exact hX p hp) h2 hw.2
  | .trans a b c x, X, g, σ, hX, h, hw => by
    simp only [treeOk, Bool.and_eq_true] at h
    have h1 := known2_spec (rk := fun i => L.idxOf i) hA hX h.1.1
    have h2 := known2_spec (rk := fun i => L.idxOf i) hA hX h.1.2
    exact tree_all hL hA x _ g σ (fun p hp => by rcases List.mem_cons.1 hp with rfl | hp; exact Nat.lt_trans h1 h2; exact hX p hp) h.2 hw

theorem noCall_res {o : AOper} (h : noCall o = true) : (∀ f args, resOf o g σ ≠ .call f args) := by
  intro f args e
  unfold resOf at e
  split at e
  · cases e
  · cases e
  · revert h e
    unfold noCall
    generalize o.op = op
    cases op <;> simp only [stepA, opt, appendA, eqSlR, lookR, updR, delR, mkR] <;> intro h e <;> first | cases h | (repeat' split at e) <;> first | cases e | skip
    all_goals (repeat' split at e) <;> cases e

theorem oper_all {o : AOper} (h : noCall o = true) {S : List Nat → Prop} {K : List Nat → (Nat → AVal) → Store → Prop} (hS : ∃ L, S L) (hw : ∀ L, S L → wpOperD P o (K L) g σ) : wpOperD P o (fun g σ => ∀ L, S L → K L g σ) g σ := by
  simp only [wpOperD_res] at hw ⊢
  have hc := noCall_res (g := g) (σ := σ) h
  generalize resOf o g σ = r at hw hc
  obtain ⟨L0, h0⟩ := hS
  cases r with
  | stuck => exact (hw L0 h0).elim
  | val v σ' => exact fun L hL => hw L hL
  | new ob k => exact fun id hid L hL => hw L hL id hid
  | call f args => exact (hc f args rfl).elim
  | both x y => exact ⟨fun L hL => (hw L hL).1, fun L hL => (hw L hL).2⟩
end
end Go.Ab

/- Regions whose order is open, code, functions: the abstract logic is sound. -/
set_option linter.unusedVariables false
set_option linter.unusedSimpArgs false
namespace Go.Ab

/-! ### Regions whose order is open -/
def maskOf (A : List Nat) (pre : List Nat) : Nat := pre.foldl (fun m p => m ||| (1 <<< p) ||| A.getD p 0) 0
def ancs (ops : List AOper) : List Nat := ops.foldl (fun acc o => acc ++ [maskOf acc o.pre]) []
def checkAt (ops : List AOper) (A : List Nat) (j : Nat) (o : AOper) : Bool :=
  o.pre.all (fun p => decide (p < j)) && Nat.beq (A.getD j 0) (maskOf A o.pre) && (List.range j).all fun k => (A.getD j 0).testBit k || (match ops[k]? with | some q => indep q o | none => false)
def drawCheck (ops : List AOper) (A : List Nat) : Bool :=
  (List.range ops.length).all fun j => match ops[j]? with
    | some o => checkAt ops A j o
    | none => false
def drawOk (ops : List AOper) : Bool := drawCheck ops (ancs ops)

theorem mask_spec (A : List Nat) : ∀ (pre : List Nat) (m k : Nat), (pre.foldl (fun m p => m ||| (1 <<< p) ||| A.getD p 0) m).testBit k = true → m.testBit k = true ∨ k ∈ pre ∨ ∃ p ∈ pre, (A.getD p 0).testBit k = true
  | [], m, k, h => .inl h
  | p :: r, m, k, h => by
    rcases mask_spec A r _ k h with h1 | h1 | ⟨q, h1, h2⟩
    · rw [Nat.testBit_or, Nat.testBit_or, Bool.or_eq_true, Bool.or_eq_true] at h1
      rcases h1 with (h1 | h1) | h1
      · exact .inl h1
      · rw [Nat.one_shiftLeft, Nat.testBit_two_pow] at h1
        have : p = k := by simpa using h1
        exact .inr (.inl (by simp [this]))
      · exact .inr (.inr ⟨p, by simp, h1⟩)
    · exact .inr (.inl (by simp [h1]))
    · exact .inr (.inr ⟨q, by simp [h1], h2⟩)

section
variable {P : Program} {α : Asg} {Im : Nat → Prop} {σ : Store} {w : World} {a : Act} {n : Nat} {g : Nat → AVal}

def rem (n : Nat) (listed : Array Bool) : List Nat := (List.range n).filter fun i => !listed.getD i true

theorem mem_rem {n i : Nat} {listed : Array Bool} : i ∈ rem n listed ↔ i < n ∧ listed.getD i true = false := by simp [rem]

theorem rem_set {n i : Nat} {listed : Array Bool} (hsz : listed.size = n) (hi : i < n) : rem n (listed.setIfInBounds i true) = (rem n listed).filter fun j => j != i := by
  unfold rem
  rw [List.filter_filter]
  refine List.filter_congr fun j hj => ?_
  have hj' : j < n := by simpa using hj
  by_cases e : j = i
  · subst e
    simp [hsz, hj']
  · have e' : i ≠ j := fun x => e x.symm
    simp [e, Array.getElem?_setIfInBounds_ne e']

structure DrawSpec (ops : List AOper) (A : Nat → Nat → Prop) : Prop where
  pre : ∀ (j : Nat) o, ops[j]? = some o → ∀ p ∈ o.pre, p < j
  anc : ∀ (j : Nat) o, ops[j]? = some o → ∀ k, A j k → k ∈ o.pre ∨ ∃ p ∈ o.pre, A p k
  ind : ∀ (j : Nat) o, ops[j]? = some o → ∀ (k : Nat) q, k < j → ops[k]? = some q → A j k ∨ indep q o = true

theorem drawSpec {ops : List AOper} (h : drawOk ops = true) : DrawSpec ops (fun j k => ((ancs ops).getD j 0).testBit k = true) := by
  unfold drawOk drawCheck at h
  rw [List.all_eq_true] at h
  have key : ∀ (j : Nat) o, ops[j]? = some o → checkAt ops (ancs ops) j o = true := fun j o hj => by
    have := h j (by simpa using (List.getElem?_eq_some_iff.1 hj).1)
    rw [hj] at this
    exact this
  refine ⟨fun j o hj p hp => ?_, fun j o hj k hk => ?_, fun j o hj k q hk hq => ?_⟩
  · have := key j o hj
    unfold checkAt at this
    rw [Bool.and_eq_true, Bool.and_eq_true] at this
    simpa using List.all_eq_true.1 this.1.1 p hp
  · have := key j o hj
    unfold checkAt at this
    rw [Bool.and_eq_true, Bool.and_eq_true] at this
    have e := Nat.eq_of_beq_eq_true this.1.2
    simp only [e] at hk
    rcases mask_spec _ _ _ _ hk with h1 | h1 | h1
    · simp at h1
    · exact .inl h1
    · exact .inr h1
  · have := key j o hj
    unfold checkAt at this
    rw [Bool.and_eq_true, Bool.and_eq_true] at this
    have := List.all_eq_true.1 this.2 k (by simpa using hk)
    rw [hq] at this
    rcases Bool.or_eq_true_iff.1 this with h1 | h1
    · exact .inl h1
    · exact .inr h1

theorem anc_listed {ops : List AOper} {A : Nat → Nat → Prop} (hA : DrawSpec ops A) {listed : Array Bool} (hcl : ∀ (j : Nat) o, ops[j]? = some o → listed.getD j false = true → ∀ p ∈ o.pre, listed.getD p false = true) (hn : ∀ (j : Nat) (o : AOper), ops[j]? = some o → True) :
    ∀ (m j : Nat) o, j < m → ops[j]? = some o → (∀ p ∈ o.pre, listed.getD p false = true) → ∀ k, A j k → listed.getD k false = true
  | 0, j, o, hj, _, _, _, _ => by omega
  | m + 1, j, o, hj, ho, hp, k, hk => by
    rcases hA.anc j o ho k hk with h1 | ⟨p, h1, h2⟩
    · exact hp k h1
    · have hpj := hA.pre j o ho p h1
      have hlt : p < ops.length := Nat.lt_trans hpj (List.getElem?_eq_some_iff.1 ho).1
      exact anc_listed hA hcl hn m p _ (by omega) (List.getElem?_eq_getElem hlt) (hcl p _ (List.getElem?_eq_getElem hlt) (hp p h1)) k h2

theorem any_sound {ops : Array Oper} {aops : List AOper} (hst : mapO (stripOper P n ops true) ops.toList = some aops) {A : Nat → Nat → Prop} (hA : DrawSpec aops A) {K : (Nat → AVal) → Store → Prop} {Q : Exit → Act → World → Prop} :
    ∀ (fuel : Nat) (listed : Array Bool) (g : Nat → AVal) (σ : Store) (α : Asg) (Im : Nat → Prop) (a : Act) (w : World), listed.size = ops.size → (rem ops.size listed).length ≤ fuel →
      (∀ (j : Nat) o, aops[j]? = some o → listed.getD j false = true → ∀ p ∈ o.pre, listed.getD p false = true) →
      idxW P aops K (rem ops.size listed) g σ → Sim α Im σ w → GRel α Im w g a.tmps → a.tmps.size = n →
      (∀ g' σ' α' Im' a' w', K g' σ' → Sim α' Im' σ' w' → GRel α' Im' w' g' a'.tmps → a'.tmps.size = n → a'.defers = a.defers → Step α Im σ w α' Im' σ' w' → Q .normal a' w') →
      wpAny P .any ops Q fuel listed a w := by
  have m1 : aops.length = ops.size := by simpa using (mapO_spec hst).1
  have m2 := (mapO_spec hst).2
  have strip : ∀ (i : Nat) ao, aops[i]? = some ao → ∃ o, ops[i]? = some o ∧ stripOper P n ops true o = some ao := fun i ao h => by
    obtain ⟨o, h1, h2⟩ := m2 i ao h
    exact ⟨o, by simpa using h1, h2⟩
  have pre_eq : ∀ (o : Oper) ao, stripOper P n ops true o = some ao → ao.pre = (o.after.toList.filter (Region.binds .any)).map (·.on) := fun o ao h => by
    unfold stripOper at h
    split at h
    · split at h
      · injection h with h; rw [← h]; rfl
      · cases h
    · cases h
  intro fuel
  induction fuel with
  | zero =>
    intro listed g σ α Im a w hsz hlen hcl h hs hg hn hK
    have hr : rem ops.size listed = [] := List.eq_nil_of_length_eq_zero (by omega)
    refine ⟨?_, ?_⟩
    · refine List.eq_nil_iff_forall_not_mem.2 fun i hi => ?_
      simp only [Region.ready, List.mem_filter, List.mem_range, Bool.and_eq_true, Bool.not_eq_true'] at hi
      have : i ∈ rem ops.size listed := mem_rem.2 ⟨hi.1, hi.2.1⟩
      rw [hr] at this
      cases this
    · rw [hr] at h
      exact hK g σ α Im a w h hs hg hn rfl (Step.refl _ _ _ _)
  | succ fuel ih =>
    intro listed g σ α Im a w hsz hlen hcl h hs hg hn hK
    refine ⟨fun hready => ?_, fun i hi => ?_⟩
    · -- nobody is ready: all are done
      have hr : rem ops.size listed = [] := by
        cases hrem : rem ops.size listed with
        | nil => rfl
        | cons i l =>
          have hmem : i ∈ rem ops.size listed := by rw [hrem]; simp
          obtain ⟨h1, h2⟩ := mem_rem.1 hmem
          have hia : i < aops.length := by omega
          obtain ⟨o, ho, hso⟩ := strip i _ (List.getElem?_eq_getElem hia)
          have hsorted : (rem ops.size listed).Pairwise (· < ·) := List.Pairwise.filter _ List.pairwise_lt_range
          rw [hrem, List.pairwise_cons] at hsorted
          have : i ∈ Region.ready .any ops listed := by
            simp only [Region.ready, List.mem_filter, List.mem_range, Bool.and_eq_true, Bool.not_eq_true']
            refine ⟨h1, h2, ?_⟩
            rw [ho]
            simp only [Option.map_some, Option.getD_some]
            rw [← Array.all_toList, List.all_eq_true]
            intro e he
            by_cases hb : Region.binds .any e = true
            · have hpre : e.on ∈ (aops[i]).pre := by
                rw [pre_eq o _ hso]
                exact List.mem_map.2 ⟨e, List.mem_filter.2 ⟨he, hb⟩, rfl⟩
              have hlt := hA.pre i _ (List.getElem?_eq_getElem hia) e.on hpre
              have hl : listed.getD e.on false = true := by
                have hsz' : e.on < listed.size := by omega
                have hnm : e.on ∉ rem ops.size listed := fun hm => by
                  rw [hrem] at hm
                  rcases List.mem_cons.1 hm with hm | hm
                  · omega
                  · have := hsorted.1 _ hm; omega
                have hx : ¬ (listed.getD e.on true = false) := fun hx => hnm (mem_rem.2 ⟨by omega, hx⟩)
                simp [hsz'] at hx ⊢
                exact hx
              simp only [hl, Bool.or_true]
            · have hb' : Region.binds .any e = false := by simpa using hb
              simp only [hb', Bool.not_false, Bool.true_or]
          rw [hready] at this
          cases this
      rw [hr] at h
      exact hK g σ α Im a w h hs hg hn rfl (Step.refl _ _ _ _)
    · simp only [Region.ready, List.mem_filter, List.mem_range, Bool.and_eq_true, Bool.not_eq_true'] at hi
      obtain ⟨h1, h2, h3⟩ := hi
      have hia : i < aops.length := by omega
      have hai := List.getElem?_eq_getElem hia
      obtain ⟨o, ho, hso⟩ := strip i _ hai
      have hpl : ∀ p ∈ (aops[i]).pre, listed.getD p false = true := fun p hp => by
        rw [pre_eq o _ hso] at hp
        obtain ⟨e, he, rfl⟩ := List.mem_map.1 hp
        obtain ⟨he1, he2⟩ := List.mem_filter.1 he
        rw [ho] at h3
        simp only [Option.map_some, Option.getD_some] at h3
        rw [← Array.all_toList, List.all_eq_true] at h3
        have := h3 e he1
        simpa [he2] using this
      have hmem : i ∈ rem ops.size listed := mem_rem.2 ⟨h1, h2⟩
      obtain ⟨l1, l2, hl⟩ := List.append_of_mem hmem
      have hsorted : (rem ops.size listed).Pairwise (· < ·) := List.Pairwise.filter _ List.pairwise_lt_range
      rw [hl, List.pairwise_append] at hsorted
      have hlt1 : ∀ k ∈ l1, k < i := fun k hk => hsorted.2.2 k hk i (by simp)
      have hgt2 : ∀ k ∈ l2, i < k := fun k hk => (List.pairwise_cons.1 hsorted.2.1).1 k hk
      have hind : ∀ k ∈ l1, ∀ q, aops[k]? = some q → indep q aops[i] = true := fun k hk q hq => by
        rcases hA.ind i _ hai k q (hlt1 k hk) hq with h | h
        · have hlk := anc_listed hA hcl (fun _ _ _ => trivial) (i + 1) i _ (by omega) hai hpl k h
          have hkr : k ∈ rem ops.size listed := by rw [hl]; simp [hk]
          obtain ⟨k1, k2⟩ := mem_rem.1 hkr
          have hks : k < listed.size := by omega
          simp [hks] at hlk k2
          rw [hlk] at k2
          cases k2
        · exact h
      rw [hl] at h
      have hb := bubble hai l2 l1 g σ hind h
      have hrem' : rem ops.size (listed.setIfInBounds i true) = l1 ++ l2 := by
        rw [rem_set hsz h1, hl, List.filter_append, List.filter_cons]
        simp only [bne_self_eq_false, Bool.false_eq_true, if_false]
        congr 1
        · exact List.filter_eq_self.2 fun k hk => by have := hlt1 k hk; simp; omega
        · exact List.filter_eq_self.2 fun k hk => by have := hgt2 k hk; simp; omega
      refine oper_sound ho hso (wpOperD_oper hb) hs hg hn fun g' σ' α' Im' a' w' hk' hs' hg' hn' hd' hst' => ?_
      refine ih (listed.setIfInBounds i true) g' σ' α' Im' a' w' (by simpa using hsz) ?_ ?_ (by rw [hrem']; exact hk') hs' hg' hn' fun g2 σ2 α2 Im2 a2 w2 q1 q2 q3 q4 q5 q6 => hK g2 σ2 α2 Im2 a2 w2 q1 q2 q3 q4 (q5.trans hd') (hst'.trans q6)
      · rw [hrem']
        rw [hl] at hlen
        simp only [List.length_append, List.length_cons] at hlen ⊢
        omega
      · intro j oj hj hlj p hp
        have mono : ∀ q, listed.getD q false = true → (listed.setIfInBounds i true).getD q false = true := fun q hq => by
          by_cases e : i = q
          · subst e
            have : i < listed.size := by omega
            simp [this]
          · simpa [Array.getElem?_setIfInBounds_ne e] using hq
        by_cases e : i = j
        · subst e
          rw [hai] at hj
          cases hj
          exact mono p (hpl p hp)
        · have : listed.getD j false = true := by simpa [Array.getElem?_setIfInBounds_ne e] using hlj
          exact mono p (hcl j oj hj this p hp)

theorem anc_lt {ops : List AOper} {A : Nat → Nat → Prop} (hA : DrawSpec ops A) : ∀ (m j : Nat) o, j < m → ops[j]? = some o → ∀ k, A j k → k < j
  | 0, j, o, hj, _, _, _ => by omega
  | m + 1, j, o, hj, ho, k, hk => by
    rcases hA.anc j o ho k hk with h1 | ⟨p, h1, h2⟩
    · exact hA.pre j o ho k h1
    · have hpj := hA.pre j o ho p h1
      have hlt : p < ops.length := Nat.lt_trans hpj (List.getElem?_eq_some_iff.1 ho).1
      have := anc_lt hA m p _ (by omega) (List.getElem?_eq_getElem hlt) k h2
      omega

/-- The same, with every order that counts run: no operation is a call. -/
theorem any_tree {ops : Array Oper} {aops : List AOper} (hst : mapO (stripOper P n ops true) ops.toList = some aops) {A : Nat → Nat → Prop} (hpre : ∀ (j : Nat) o, aops[j]? = some o → ∀ p ∈ o.pre, p < j)
    (hanc : ∀ (j : Nat) o, aops[j]? = some o → ∀ k, A j k → k ∈ o.pre ∨ ∃ p ∈ o.pre, A p k) (hnc : ∀ o ∈ aops, noCall o = true) {K : (Nat → AVal) → Store → Prop} {Q : Exit → Act → World → Prop} :
    ∀ (fuel : Nat) (listed : Array Bool) (g : Nat → AVal) (σ : Store) (α : Asg) (Im : Nat → Prop) (a : Act) (w : World), listed.size = ops.size → (rem ops.size listed).length ≤ fuel →
      (∀ (j : Nat) o, aops[j]? = some o → listed.getD j false = true → ∀ p ∈ o.pre, listed.getD p false = true) →
      (∀ L : List Nat, L.Perm (rem ops.size listed) → L.Pairwise (fun x y => ¬ A x y) → idxW P aops K L g σ) → Sim α Im σ w → GRel α Im w g a.tmps → a.tmps.size = n →
      (∀ g' σ' α' Im' a' w', K g' σ' → Sim α' Im' σ' w' → GRel α' Im' w' g' a'.tmps → a'.tmps.size = n → a'.defers = a.defers → Step α Im σ w α' Im' σ' w' → Q .normal a' w') →
      wpAny P .any ops Q fuel listed a w := by
  have m1 : aops.length = ops.size := by simpa using (mapO_spec hst).1
  have m2 := (mapO_spec hst).2
  have strip : ∀ (i : Nat) ao, aops[i]? = some ao → ∃ o, ops[i]? = some o ∧ stripOper P n ops true o = some ao := fun i ao h => by
    obtain ⟨o, h1, h2⟩ := m2 i ao h
    exact ⟨o, by simpa using h1, h2⟩
  have pre_eq : ∀ (o : Oper) ao, stripOper P n ops true o = some ao → ao.pre = (o.after.toList.filter (Region.binds .any)).map (·.on) := fun o ao h => by
    unfold stripOper at h
    split at h
    · split at h
      · injection h with h; rw [← h]; rfl
      · cases h
    · cases h
  have alt : ∀ (m j : Nat) o, j < m → aops[j]? = some o → ∀ k, A j k → k < j := by
    intro m
    induction m with
    | zero => intro j o hj; omega
    | succ m ih =>
      intro j o hj ho k hk
      rcases hanc j o ho k hk with h1 | ⟨p, h1, h2⟩
      · exact hpre j o ho k h1
      · have hpj := hpre j o ho p h1
        have hlt : p < aops.length := Nat.lt_trans hpj (List.getElem?_eq_some_iff.1 ho).1
        have := ih p _ (by omega) (List.getElem?_eq_getElem hlt) k h2
        omega
  have alisted : ∀ (listed : Array Bool), (∀ (j : Nat) o, aops[j]? = some o → listed.getD j false = true → ∀ p ∈ o.pre, listed.getD p false = true) →
      ∀ (m j : Nat) o, j < m → aops[j]? = some o → (∀ p ∈ o.pre, listed.getD p false = true) → ∀ k, A j k → listed.getD k false = true := by
    intro listed hcl m
    induction m with
    | zero => intro j o hj; omega
    | succ m ih =>
      intro j o hj ho hp k hk
      rcases hanc j o ho k hk with h1 | ⟨p, h1, h2⟩
      · exact hp k h1
      · have hpj := hpre j o ho p h1
        have hlt : p < aops.length := Nat.lt_trans hpj (List.getElem?_eq_some_iff.1 ho).1
        exact ih p _ (by omega) (List.getElem?_eq_getElem hlt) (hcl p _ (List.getElem?_eq_getElem hlt) (hp p h1)) k h2
  have sorted : ∀ (listed : Array Bool), (rem ops.size listed).Pairwise (fun x y => ¬ A x y) := fun listed => by
    have hs : (rem ops.size listed).Pairwise (· < ·) := List.Pairwise.filter _ List.pairwise_lt_range
    refine hs.imp_of_mem fun {x y} hx hy hxy ha => ?_
    have hxl : x < aops.length := by rw [m1]; exact (mem_rem.1 hx).1
    have := alt (x + 1) x _ (by omega) (List.getElem?_eq_getElem hxl) y ha
    omega
  intro fuel
  induction fuel with
  | zero =>
    intro listed g σ α Im a w hsz hlen hcl h hs hg hn hK
    have hr : rem ops.size listed = [] := List.eq_nil_of_length_eq_zero (by omega)
    refine ⟨?_, ?_⟩
    · refine List.eq_nil_iff_forall_not_mem.2 fun i hi => ?_
      simp only [Region.ready, List.mem_filter, List.mem_range, Bool.and_eq_true, Bool.not_eq_true'] at hi
      have : i ∈ rem ops.size listed := mem_rem.2 ⟨hi.1, hi.2.1⟩
      rw [hr] at this
      cases this
    · have h' := h [] (by rw [hr]) List.Pairwise.nil
      exact hK g σ α Im a w h' hs hg hn rfl (Step.refl _ _ _ _)
  | succ fuel ih =>
    intro listed g σ α Im a w hsz hlen hcl h hs hg hn hK
    refine ⟨fun hready => ?_, fun i hi => ?_⟩
    · -- nobody is ready: all are done
      have hr : rem ops.size listed = [] := by
        cases hrem : rem ops.size listed with
        | nil => rfl
        | cons i l =>
          have hmem : i ∈ rem ops.size listed := by rw [hrem]; simp
          obtain ⟨h1, h2⟩ := mem_rem.1 hmem
          have hia : i < aops.length := by omega
          obtain ⟨o, ho, hso⟩ := strip i _ (List.getElem?_eq_getElem hia)
          have hsorted : (rem ops.size listed).Pairwise (· < ·) := List.Pairwise.filter _ List.pairwise_lt_range
          rw [hrem, List.pairwise_cons] at hsorted
          have : i ∈ Region.ready .any ops listed := by
            simp only [Region.ready, List.mem_filter, List.mem_range, Bool.and_eq_true, Bool.not_eq_true']
            refine ⟨h1, h2, ?_⟩
            rw [ho]
            simp only [Option.map_some, Option.getD_some]
            rw [← Array.all_toList, List.all_eq_true]
            intro e he
            by_cases hb : Region.binds .any e = true
            · have hpr : e.on ∈ (aops[i]).pre := by
                rw [pre_eq o _ hso]
                exact List.mem_map.2 ⟨e, List.mem_filter.2 ⟨he, hb⟩, rfl⟩
              have hlt := hpre i _ (List.getElem?_eq_getElem hia) e.on hpr
              have hl : listed.getD e.on false = true := by
                have hsz' : e.on < listed.size := by omega
                have hnm : e.on ∉ rem ops.size listed := fun hm => by
                  rw [hrem] at hm
                  rcases List.mem_cons.1 hm with hm | hm
                  · omega
                  · have := hsorted.1 _ hm; omega
                have hx : ¬ (listed.getD e.on true = false) := fun hx => hnm (mem_rem.2 ⟨by omega, hx⟩)
                simp [hsz'] at hx ⊢
                exact hx
              simp only [hl, Bool.or_true]
            · have hb' : Region.binds .any e = false := by simpa using hb
              simp only [hb', Bool.not_false, Bool.true_or]
          rw [hready] at this
          cases this
      have h' := h [] (by rw [hr]) List.Pairwise.nil
      exact hK g σ α Im a w h' hs hg hn rfl (Step.refl _ _ _ _)
    · simp only [Region.ready, List.mem_filter, List.mem_range, Bool.and_eq_true, Bool.not_eq_true'] at hi
      obtain ⟨h1, h2, h3⟩ := hi
      have hia : i < aops.length := by omega
      have hai := List.getElem?_eq_getElem hia
      obtain ⟨o, ho, hso⟩ := strip i _ hai
      have hpl : ∀ p ∈ (aops[i]).pre, listed.getD p false = true := fun p hp => by
        rw [pre_eq o _ hso] at hp
        obtain ⟨e, he, rfl⟩ := List.mem_map.1 hp
        obtain ⟨he1, he2⟩ := List.mem_filter.1 he
        rw [ho] at h3
        simp only [Option.map_some, Option.getD_some] at h3
        rw [← Array.all_toList, List.all_eq_true] at h3
        have := h3 e he1
        simpa [he2] using this
      have hmem : i ∈ rem ops.size listed := mem_rem.2 ⟨h1, h2⟩
      have hrs := rem_set (listed := listed) hsz h1
      have hnd : (rem ops.size listed).Nodup := List.Nodup.sublist List.filter_sublist List.nodup_range
      have hperm : (i :: rem ops.size (listed.setIfInBounds i true)).Perm (rem ops.size listed) := by
        rw [hrs, ← hnd.erase_eq_filter]
        exact (List.perm_cons_erase hmem).symm
      have hall : ∀ L : List Nat, (L.Perm (rem ops.size (listed.setIfInBounds i true)) ∧ L.Pairwise (fun x y => ¬ A x y)) → wpOperD P aops[i] (idxW P aops K L) g σ := fun L hL => by
        have hno : ∀ y ∈ L, ¬ A i y := fun y hy ha => by
          have hly := alisted listed hcl (i + 1) i _ (by omega) hai hpl y ha
          have hyr : y ∈ rem ops.size listed := hperm.subset (List.mem_cons_of_mem _ (hL.1.subset hy))
          obtain ⟨k1, k2⟩ := mem_rem.1 hyr
          have hks : y < listed.size := by omega
          simp [hks] at hly k2
          rw [hly] at k2
          cases k2
        have hv := h (i :: L) ((hL.1.cons i).trans hperm) (List.pairwise_cons.2 ⟨hno, hL.2⟩)
        simpa only [idxW, hai] using hv
      have hw := oper_all (hnc _ (List.getElem_mem hia)) ⟨_, List.Perm.refl _, sorted _⟩ hall
      refine oper_sound ho hso (wpOperD_oper hw) hs hg hn fun g' σ' α' Im' a' w' hk' hs' hg' hn' hd' hst' => ?_
      refine ih (listed.setIfInBounds i true) g' σ' α' Im' a' w' (by simpa using hsz) ?_ ?_ (fun L hL1 hL2 => hk' L ⟨hL1, hL2⟩) hs' hg' hn' fun g2 σ2 α2 Im2 a2 w2 q1 q2 q3 q4 q5 q6 => hK g2 σ2 α2 Im2 a2 w2 q1 q2 q3 q4 (q5.trans hd') (hst'.trans q6)
      · have := hperm.length_eq
        simp only [List.length_cons] at this
        omega
      · intro j oj hj hlj p hp
        have mono : ∀ q, listed.getD q false = true → (listed.setIfInBounds i true).getD q false = true := fun q hq => by
          by_cases e : i = q
          · subst e
            have : i < listed.size := by omega
            simp [this]
          · simpa [Array.getElem?_setIfInBounds_ne e] using hq
        by_cases e : i = j
        · subst e
          rw [hai] at hj
          cases hj
          exact mono p (hpl p hp)
        · have : listed.getD j false = true := by simpa [Array.getElem?_setIfInBounds_ne e] using hlj
          exact mono p (hcl j oj hj this p hp)

/-- What is asked of the orders that are run: they are enough. -/
def preAt (A : List Nat) (j : Nat) (o : AOper) : Bool := o.pre.all (fun p => decide (p < j)) && Nat.beq (A.getD j 0) (maskOf A o.pre)
def preCheck (ops : List AOper) (A : List Nat) : Bool :=
  decide (A.length = ops.length) && (List.range ops.length).all fun j => match ops[j]? with
    | some o => preAt A j o
    | none => false
def enough (ops : List AOper) (T : Tree) : Bool := preCheck ops (ancs ops) && ops.all noCall && treeOk ops (ancs ops) [] T
theorem preSpec {ops : List AOper} {A : List Nat} (h : preCheck ops A = true) : A.length = ops.length ∧ ∀ (j : Nat) o, ops[j]? = some o → (∀ p ∈ o.pre, p < j) ∧ ∀ k, (A.getD j 0).testBit k = true → k ∈ o.pre ∨ ∃ p ∈ o.pre, (A.getD p 0).testBit k = true := by
  unfold preCheck at h
  simp only [Bool.and_eq_true, decide_eq_true_eq, List.all_eq_true] at h
  refine ⟨h.1, fun j o hj => ?_⟩
  have := h.2 j (by simpa using (List.getElem?_eq_some_iff.1 hj).1)
  rw [hj] at this
  simp only [preAt, Bool.and_eq_true, List.all_eq_true, decide_eq_true_eq] at this
  refine ⟨fun p hp => this.1 p hp, fun k hk => ?_⟩
  have e := Nat.eq_of_beq_eq_true this.2
  rw [e] at hk
  rcases mask_spec _ _ _ _ hk with h1 | h1 | h1
  · simp at h1
  · exact .inl h1
  · exact .inr h1

/-! ### Code -/
inductive AExit where
  | normal
  | exit (id : Nat)
  | ret

def Fr.le (a b : Fr) : Prop := ∀ s, a.get s = .undef ∨ a.get s = b.get s
theorem Fr.le_refl (a : Fr) : a.le a := fun _ => .inr rfl

/-- What holds of the world, told in other words: things are forgotten, or nobody writes them any more. -/
def Weak (fr : Fr) (σ : Store) (fr0 : Fr) (σ0 : Store) : Prop := ∀ (α : Asg) (Im : Nat → Prop) (w : World) (tmps : Array Value), Sim α Im σ w → GRel α Im w fr.get tmps →
  ∃ Im', Sim α Im' σ0 w ∧ GRel α Im' w fr0.get tmps ∧ Step α Im σ w α Im' σ0 w

def wp (P : Program) : ACode → (AExit → Fr → Store → Prop) → Fr → Store → Prop
  | .skip, K, fr, σ => K .normal fr σ
  | .ret, K, fr, σ => K .ret fr σ
  | .exit id, K, fr, σ => K (.exit id) fr σ
  | .reg ops draw keep, K, fr, σ => if draw then (if drawOk ops = true then wpOpsD P (fun g σ' => K .normal (keepFr keep g) σ') ops fr.get σ else ∃ T, enough ops T = true ∧ wpTree P ops (fun g σ' => K .normal (keepFr keep g) σ') T fr.get σ) else wpOps P (fun g σ' => K .normal (keepFr keep g) σ') ops fr.get σ
  | .seq a b, K, fr, σ => wp P a (fun e fr' σ' => match e with | .normal => wp P b K fr' σ' | e => K e fr' σ') fr σ
  | .cond c a b, K, fr, σ => ∃ t, aeval fr.get c = .sc (.bool t) ∧ (if t then wp P a K fr σ else wp P b K fr σ)
  | .block id b, K, fr, σ => wp P b (fun e fr' σ' => match e with | .exit i => if i = id then K .normal fr' σ' else K (.exit i) fr' σ' | e => K e fr' σ') fr σ
  | .loop b, K, fr, σ => ∃ I : Nat → Fr → Store → Prop, (∃ m fr0 σ0, Weak fr σ fr0 σ0 ∧ I m fr0 σ0) ∧
      ∀ m fr σ, I m fr σ → wp P b (fun e fr' σ' => match e with | .normal => ∃ m' fr0 σ0, m' < m ∧ Weak fr' σ' fr0 σ0 ∧ I m' fr0 σ0 | e => K e fr' σ') fr σ

def exitRel : AExit → Exit → Prop
  | .normal, .normal => True
  | .exit i, .exit j => i = j
  | .ret, .ret => True
  | _, _ => False

theorem keep_get (keep : List Nat) (g : Nat → AVal) (s : Nat) : (keepFr keep g).get s = .undef ∨ (keepFr keep g).get s = g s := by
  induction keep with
  | nil => exact .inl rfl
  | cons k r ih =>
    simp only [keepFr, List.map_cons, Fr.get]
    split
    · rename_i e; rw [e]; exact .inr rfl
    · exact ih
theorem keep_rel {keep : List Nat} {tmps : Array Value} (h : GRel α Im w g tmps) : GRel α Im w (keepFr keep g).get tmps := fun s => by
  rcases keep_get keep g s with e | e
  · rw [e]; exact .undef _
  · rw [e]; exact h s
theorem le_rel {a b : Fr} {tmps : Array Value} (h : a.le b) (hg : GRel α Im w b.get tmps) : GRel α Im w a.get tmps := fun s => by
  rcases h s with e | e
  · rw [e]; exact .undef _
  · rw [e]; exact hg s

theorem Weak.of_le {a b : Fr} {σ : Store} (h : a.le b) : Weak b σ a σ := fun α Im w tmps hs hg => ⟨Im, hs, le_rel h hg, Step.refl _ _ _ _⟩
theorem Weak.trans {a b c : Fr} {σ τ υ : Store} (h : Weak a σ b τ) (k : Weak b τ c υ) : Weak a σ c υ := fun α Im w tmps hs hg => by
  obtain ⟨I1, h1, h2, h3⟩ := h α Im w tmps hs hg
  obtain ⟨I2, k1, k2, k3⟩ := k α I1 w tmps h1 h2
  exact ⟨I2, k1, k2, h3.trans k3⟩

/-- What the world is like where an abstract state holds. -/
def Post (n : Nat) (d : List Deferred) (α : Asg) (Im : Nat → Prop) (σ : Store) (w : World) (K : AExit → Fr → Store → Prop) : Exit → Act → World → Prop := fun e a' w' =>
  ∃ ae fr' σ' α' Im', exitRel ae e ∧ K ae fr' σ' ∧ Sim α' Im' σ' w' ∧ GRel α' Im' w' fr'.get a'.tmps ∧ a'.tmps.size = n ∧ a'.defers = d ∧ Step α Im σ w α' Im' σ' w'

theorem ops_sound {ops : Array Oper} {K : (Nat → AVal) → Store → Prop} {Q : Exit → Act → World → Prop} : ∀ (aops : List AOper) (s : Nat), (∀ (i : Nat) ao, aops[i]? = some ao → ∃ o, ops[s + i]? = some o ∧ stripOper P n ops false o = some ao) →
    ∀ (g : Nat → AVal) (σ : Store) (α : Asg) (Im : Nat → Prop) (a : Act) (w : World), wpOps P K aops g σ → Sim α Im σ w → GRel α Im w g a.tmps → a.tmps.size = n →
    (∀ g' σ' α' Im' a' w', K g' σ' → Sim α' Im' σ' w' → GRel α' Im' w' g' a'.tmps → a'.tmps.size = n → a'.defers = a.defers → Step α Im σ w α' Im' σ' w' → Q .normal a' w') →
    Go.wpOps P ops Q (List.range' s aops.length) a w
  | [], s, _, g, σ, α, Im, a, w, h, hs, hg, hn, hK => hK g σ α Im a w h hs hg hn rfl (Step.refl _ _ _ _)
  | ao :: r, s, hops, g, σ, α, Im, a, w, h, hs, hg, hn, hK => by
    obtain ⟨o, ho, hso⟩ := hops 0 ao rfl
    rw [List.length_cons, List.range'_succ, wpOps_cons]
    refine oper_sound ho hso h hs hg hn fun g' σ' α' Im' a' w' k1 k2 k3 k4 k5 k6 => ?_
    exact ops_sound r (s + 1) (fun i q hi => by have := hops (i + 1) q hi; rwa [show s + (i + 1) = s + 1 + i by omega] at this) g' σ' α' Im' a' w' k1 k2 k3 k4
      fun g2 σ2 α2 Im2 a2 w2 q1 q2 q3 q4 q5 q6 => hK g2 σ2 α2 Im2 a2 w2 q1 q2 q3 q4 (q5.trans k5) (k6.trans q6)

theorem code_sound (hm : P.follows .mixedOrders = true) {keep : Nat → List Nat} : ∀ (c : Code) (ac : ACode), stripCode P n keep c = some ac → ∀ (K : AExit → Fr → Store → Prop) (fr : Fr) (σ : Store) (α : Asg) (Im : Nat → Prop) (a : Act) (w : World),
    wp P ac K fr σ → Sim α Im σ w → GRel α Im w fr.get a.tmps → a.tmps.size = n → c.wp P (Post n a.defers α Im σ w K) a w := by
  intro c
  induction c with
  | skip =>
    intro ac hst K fr σ α Im a w h hs hg hn
    simp only [stripCode, Option.some.injEq] at hst
    subst hst
    exact wp_skip ⟨.normal, fr, σ, α, Im, trivial, h, hs, hg, hn, rfl, Step.refl _ _ _ _⟩
  | ret =>
    intro ac hst K fr σ α Im a w h hs hg hn
    simp only [stripCode, Option.some.injEq] at hst
    subst hst
    exact wp_ret ⟨.ret, fr, σ, α, Im, trivial, h, hs, hg, hn, rfl, Step.refl _ _ _ _⟩
  | exit id =>
    intro ac hst K fr σ α Im a w h hs hg hn
    simp only [stripCode, Option.some.injEq] at hst
    subst hst
    exact wp_exit ⟨.exit id, fr, σ, α, Im, rfl, h, hs, hg, hn, rfl, Step.refl _ _ _ _⟩
  | region id ops draw =>
    intro ac hst K fr σ α Im a w h hs hg hn
    simp only [stripCode] at hst
    obtain ⟨aops, hao, rfl⟩ := Option.map_eq_some_iff.1 hst
    have m1 : aops.length = ops.size := by simpa using (mapO_spec hao).1
    have m2 := (mapO_spec hao).2
    simp only [wp] at h
    cases draw with
    | false =>
      simp only [Bool.false_eq_true, if_false] at h
      refine wp_region ?_
      rw [← m1, List.range_eq_range']
      exact ops_sound aops 0 (fun i ao hi => by
        obtain ⟨o, h1, h2⟩ := m2 i ao hi
        exact ⟨o, by simpa using h1, h2⟩) fr.get σ α Im a w h hs hg hn fun g' σ' α' Im' a' w' k1 k2 k3 k4 k5 k6 => ⟨.normal, _, σ', α', Im', trivial, k1, k2, keep_rel k3, k4, k5, k6⟩
    | true =>
      simp only [if_true] at h
      refine wp_region_any hm ?_
      have hall : rem ops.size (Array.replicate ops.size false) = List.range' 0 aops.length := by
        unfold rem
        rw [m1, ← List.range_eq_range']
        refine List.filter_eq_self.2 fun i hi => ?_
        have : i < ops.size := by simpa using hi
        simp [this]
      have hw0 : ∀ (w0 : World), w0.heap = w.heap → w0.os = w.os → w0.tape = w.tape → w0.output = w.output ∧ w.drawn ≤ w0.drawn → Sim α Im σ w0 ∧ GRel α Im w0 fr.get a.tmps ∧ Step α Im σ w α Im σ w0 := fun w0 e1 e2 e3 e4 =>
        ⟨hs.drew e1, fun s => (hg s).mono (le_refl α) (fun _ h => h) (fun _ _ => by rw [e1]), Step.of_heap e1 e2 e3 e4⟩
      obtain ⟨s1, s2, s3⟩ := hw0 { w with drawn := w.drawn + 1 } rfl rfl rfl ⟨rfl, Nat.le_succ _⟩
      have hl0 : ∀ (j : Nat) (o : AOper), aops[j]? = some o → (Array.replicate ops.size false).getD j false = true → ∀ p ∈ o.pre, (Array.replicate ops.size false).getD p false = true := fun j o hj hl => by
        by_cases hj' : j < ops.size
        · simp [hj'] at hl
        · simp [hj'] at hl
      split at h
      · rename_i hok
        have hA := drawSpec hok
        refine any_sound (K := fun g σ' => K .normal (keepFr (keep id) g) σ') hao hA ops.size (Array.replicate ops.size false) fr.get σ α Im a _ (by simp) ?_ hl0 ?_ s1 s2 hn fun g' σ' α' Im' a' w' k1 k2 k3 k4 k5 k6 => ⟨.normal, _, σ', α', Im', trivial, k1, k2, keep_rel k3, k4, k5, s3.trans k6⟩
        · rw [hall]; simp [m1]
        · rw [hall]
          exact idx_of_ops aops.length 0 fr.get σ (by omega) (by simpa using h)
      · obtain ⟨T, hT, h⟩ := h
        simp only [enough, Bool.and_eq_true, List.all_eq_true] at hT
        obtain ⟨⟨t1, t2⟩, t3⟩ := hT
        obtain ⟨t4, t5⟩ := preSpec t1
        refine any_tree (K := fun g σ' => K .normal (keepFr (keep id) g) σ') (A := fun j k => ((ancs aops).getD j 0).testBit k = true) hao (fun j o hj => (t5 j o hj).1) (fun j o hj => (t5 j o hj).2) t2 ops.size (Array.replicate ops.size false) fr.get σ α Im a _ (by simp) ?_ hl0 ?_ s1 s2 hn fun g' σ' α' Im' a' w' k1 k2 k3 k4 k5 k6 => ⟨.normal, _, σ', α', Im', trivial, k1, k2, keep_rel k3, k4, k5, s3.trans k6⟩
        · rw [hall]; simp [m1]
        · intro L hL1 hL2
          rw [hall, ← List.range_eq_range'] at hL1
          refine tree_all hL1 (fun j k hjk => ?_) T [] fr.get σ (by simp) t3 h
          -- j has k behind it: k stands ahead
          have hjl : j < aops.length := by
            by_cases hj : j < aops.length
            · exact hj
            · have hnone : (ancs aops)[j]? = none := List.getElem?_eq_none (by omega)
              simp [List.getD_eq_getElem?_getD, hnone] at hjk
          have hkj : k < j := by
            have key : ∀ (m j : Nat), j < m → j < aops.length → ∀ k, ((ancs aops).getD j 0).testBit k = true → k < j := by
              intro m
              induction m with
              | zero => intro j hj; omega
              | succ m ih =>
                intro j hj hjl k hk
                rcases (t5 j _ (List.getElem?_eq_getElem hjl)).2 k hk with h1 | ⟨p, h1, h2⟩
                · exact (t5 j _ (List.getElem?_eq_getElem hjl)).1 k h1
                · have hpj := (t5 j _ (List.getElem?_eq_getElem hjl)).1 p h1
                  have := ih p (by omega) (by omega) k h2
                  omega
            exact key (j + 1) j (by omega) hjl k hjk
          have mj : j ∈ L := hL1.symm.subset (by simpa using hjl)
          have mk : k ∈ L := hL1.symm.subset (by simp; omega)
          have ij := List.idxOf_lt_length_of_mem mj
          have ik := List.idxOf_lt_length_of_mem mk
          have hne : L.idxOf j ≠ L.idxOf k := fun e => by
            have e1 := List.getElem_idxOf ij
            have e2 := List.getElem_idxOf ik
            have : j = k := by rw [← e1, ← e2]; simp only [e]
            omega
          rcases Nat.lt_or_gt_of_ne hne with hlt | hgt
          · have := List.pairwise_iff_getElem.1 hL2 _ _ ij ik hlt
            rw [List.getElem_idxOf ij, List.getElem_idxOf ik] at this
            exact absurd hjk this
          · exact hgt
  | seq x y ihx ihy =>
    intro ac hst K fr σ α Im a w h hs hg hn
    simp only [stripCode] at hst
    split at hst
    · rename_i ax ay hx hy
      injection hst with hst
      subst hst
      refine wp_seq (wp_mono (ihx ax hx _ fr σ α Im a w h hs hg hn) ?_)
      rintro e a' w' ⟨ae, fr', σ', α', Im', h1, h2, h3, h4, h5, h6, h7⟩
      cases ae <;> cases e <;> simp only [exitRel] at h1
      · refine wp_mono (ihy ay hy K fr' σ' α' Im' a' w' h2 h3 h4 h5) ?_
        rintro e2 a2 w2 ⟨ae2, fr2, σ2, α2, Im2, k1, k2, k3, k4, k5, k6, k7⟩
        exact ⟨ae2, fr2, σ2, α2, Im2, k1, k2, k3, k4, k5, k6.trans h6, h7.trans k7⟩
      · exact ⟨.exit _, fr', σ', α', Im', h1, h2, h3, h4, h5, h6, h7⟩
      · exact ⟨.ret, fr', σ', α', Im', trivial, h2, h3, h4, h5, h6, h7⟩
    · cases hst
  | cond c x y ihx ihy =>
    intro ac hst K fr σ α Im a w h hs hg hn
    simp only [stripCode] at hst
    split at hst
    · rename_i ax ay hx hy
      injection hst with hst
      subst hst
      obtain ⟨t, ht, h⟩ := h
      have hr := eval_rel (a := a) hg c
      rw [ht] at hr
      have e := rel_sc_inv hr
      refine wp_cond e ?_
      cases t
      · exact ihy ay hy K fr σ α Im a w h hs hg hn
      · exact ihx ax hx K fr σ α Im a w h hs hg hn
    · cases hst
  | block id b ih =>
    intro ac hst K fr σ α Im a w h hs hg hn
    simp only [stripCode] at hst
    obtain ⟨ab, hb, rfl⟩ := Option.map_eq_some_iff.1 hst
    refine wp_block (wp_mono (ih ab hb _ fr σ α Im a w h hs hg hn) ?_)
    rintro e a' w' ⟨ae, fr', σ', α', Im', h1, h2, h3, h4, h5, h6, h7⟩
    cases ae <;> cases e <;> simp only [exitRel] at h1
    · exact ⟨.normal, fr', σ', α', Im', trivial, h2, h3, h4, h5, h6, h7⟩
    · rename_i i j
      subst h1
      simp only [Exit.inBlock]
      by_cases e : i = id
      · rw [if_pos e]
        simp only [e, if_true] at h2
        exact ⟨.normal, fr', σ', α', Im', trivial, h2, h3, h4, h5, h6, h7⟩
      · rw [if_neg e]
        simp only [e, if_false] at h2
        exact ⟨.exit i, fr', σ', α', Im', rfl, h2, h3, h4, h5, h6, h7⟩
    · exact ⟨.ret, fr', σ', α', Im', trivial, h2, h3, h4, h5, h6, h7⟩
  | loop b ih =>
    intro ac hst K fr σ α Im a w h hs hg hn
    simp only [stripCode] at hst
    obtain ⟨ab, hb, rfl⟩ := Option.map_eq_some_iff.1 hst
    obtain ⟨I, ⟨m, fr0, σ0, hwk, hI⟩, hround⟩ := h
    -- a round's invariant, in the world
    let J : Nat → Act → World → Prop := fun m a' w' => ∃ fr' σ' α' Im', I m fr' σ' ∧ Sim α' Im' σ' w' ∧ GRel α' Im' w' fr'.get a'.tmps ∧ a'.tmps.size = n ∧ a'.defers = a.defers ∧ Step α Im σ w α' Im' σ' w'
    have key : ∀ m a' w', J m a' w' → ∀ (fb : Frame) (k : List Item) (cs : List Frame), ∃ e a₂ w₂, Post n a.defers α Im σ w K e a₂ w₂ ∧ Arrives P (lone (fb.at a' (.code b :: .inLoop b :: k)) cs w') fb k cs e a₂ w₂ := by
      intro m
      induction m using Nat.strongRecOn with
      | _ m ihm =>
        rintro a' w' ⟨fr', σ', α', Im', h1, h2, h3, h4, h5, h6⟩ fb k cs
        have hb' := ih ab hb _ fr' σ' α' Im' a' w' (hround m fr' σ' h1) h2 h3 h4
        obtain ⟨e, a₁, w₁, ⟨ae, fr₁, σ₁, α₁, Im₁, q1, q2, q3, q4, q5, q6, q7⟩, harr⟩ := hb' fb (.inLoop b :: k) cs
        cases ae <;> cases e <;> simp only [exitRel] at q1
        · obtain ⟨m', fr0', σ0', hlt, hwk', hI'⟩ := q2
          obtain ⟨Im₂, u1, u2, u3⟩ := hwk' α₁ Im₁ w₁ _ q3 q4
          obtain ⟨e₂, a₂, w₂, hq₂, harr₂⟩ := ihm m' hlt a₁ w₁ ⟨fr0', σ0', α₁, Im₂, hI', u1, u2, q5, q6.trans h5, (h6.trans q7).trans u3⟩ fb k cs
          exact ⟨e₂, a₂, w₂, hq₂, .of_steps (Steps.trans harr (.one step_inLoop)) harr₂⟩
        · exact ⟨Exit.exit _, a₁, w₁, ⟨.exit _, fr₁, σ₁, α₁, Im₁, q1, q2, q3, q4, q5, q6.trans h5, h6.trans q7⟩, .pass (x := .inLoop b) rfl (fun _ _ => .inl (by simp)) harr⟩
        · exact ⟨Exit.ret, a₁, w₁, ⟨.ret, fr₁, σ₁, α₁, Im₁, trivial, q2, q3, q4, q5, q6.trans h5, h6.trans q7⟩, .pass (x := .inLoop b) rfl (fun _ _ => .inl (by simp)) harr⟩
    intro fb k cs
    obtain ⟨Im2, u1, u2, u3⟩ := hwk α Im w _ hs hg
    obtain ⟨e, a', w', hq, harr⟩ := key m a w ⟨fr0, σ0, α, Im2, hI, u1, u2, hn, rfl, u3⟩ fb k cs
    exact ⟨e, a', w', hq, .of_steps (.one step_loop) harr⟩
  | _ =>
    intro ac hst
    simp [stripCode] at hst

/-! ### Functions -/
inductive ARes where
  | tmp (t : Nat)
  | cell (c : Nat) (agg : Bool) (sz : Nat)

def stripRes (P : Program) : ResultVar → Option ARes
  | .tmp t => some (.tmp t)
  | .cell c t => match P.underlying t, P.info? t with
    | some d, some i => some (.cell c (isAggD d) (if isAggD d then i.size else 1))
    | _, _ => none
def resVarA (fr : Fr) (σ : Store) : ARes → Option AVal
  | .tmp t => some (fr.get t)
  | .cell c agg sz => match fr.get c with
    | .ptr id ver i o => match rowAt σ id ver with
      | some (_, _, xs) => match xs[i]? with
        | some cs => partA agg sz o cs
        | none => none
      | none => none
    | _ => none
def resultsA (rs : List ARes) (fr : Fr) (σ : Store) : Option AVal :=
  match mapO (resVarA fr σ) rs with
  | some [v] => some v
  | some vs => some (.tup vs)
  | none => none

def resOfTmp (P : Program) (tmps : Array Value) : ResultVar → Sem Value
  | .tmp t => pure (tmps.getD t undef)
  | .cell c t => do loadVar t (← asAddr (tmps.getD c undef))

theorem result_key (hs : Sim α Im σ w) {fr : Fr} {tmps : Array Value} (hg : GRel α Im w fr.get tmps) {r : ResultVar} {ar : ARes} {v : AVal} (hr : stripRes P r = some ar) (hv : resVarA fr σ ar = some v) :
    ∃ c, (resOfTmp P tmps r).run P w = .ok c w ∧ Rel α Im w v c := by
  cases r with
  | tmp t =>
    simp only [stripRes, Option.some.injEq] at hr
    subst hr
    simp only [resVarA, Option.some.injEq] at hv
    subst hv
    exact ⟨_, rfl, hg t⟩
  | cell c t =>
    simp only [stripRes] at hr
    split at hr
    · rename_i d i hd hi
      injection hr with hr
      subst hr
      simp only [resVarA] at hv
      split at hv
      · rename_i id ver e k hp
        have hx := hg c
        rw [hp] at hx
        generalize hvx : tmps.getD c undef = vx at hx
        cases hx with
        | ptr _ _ _ _ l hl =>
          split at hv
          · rename_i q fz xs hr
            obtain ⟨g1, g2, g3, g4, g5, g6⟩ := rowAt_spec hs hr hl
            split at hv
            · rename_i cs hc
              obtain ⟨h1, h2⟩ := g4 e cs hc
              obtain ⟨cv, h3, h4⟩ := load_part hs hd hi (b := l.b) (base := l.base + e * l.sz) (cs := cs) (k := k) (fun j y hy => by rw [g2]; exact h2 j y hy) hv
              refine ⟨cv, ?_, h4⟩
              simp only [resOfTmp, hvx, asAddr, Sem.run_bind, Sem.run_pure, Result.andThen_ok]
              exact h3
            · cases hv
          · cases hv
      · cases hv
    · cases hr

theorem results_key (hs : Sim α Im σ w) {fr : Fr} {tmps : Array Value} (hg : GRel α Im w fr.get tmps) : ∀ (rs : List ResultVar) (ars : List ARes) (vs : List AVal), mapO (stripRes P) rs = some ars → mapO (resVarA fr σ) ars = some vs →
    ∃ cs : List Value, (rs.mapM (resOfTmp P tmps)).run P w = .ok cs w ∧ cs.length = vs.length ∧ ∀ (i : Nat) x c, vs[i]? = some x → cs[i]? = some c → Rel α Im w x c
  | [], ars, vs, hr, h => by
    simp only [mapO, Option.some.injEq] at hr; subst hr
    simp only [mapO, Option.some.injEq] at h; subst h; exact ⟨[], by simp, rfl, fun i x c h => by simp at h⟩
  | r :: rs, ars, vs, hr, h => by
    simp only [mapO] at hr
    split at hr
    · rename_i ar aq har haq
      injection hr with hr
      subst hr
      simp only [mapO] at h
      split at h
      · rename_i y q hy hq
        injection h with h
        subst h
        obtain ⟨cs, h1, h2, h3⟩ := results_key hs hg rs aq q haq hq
        obtain ⟨c0, h0, hc0⟩ := result_key hs hg har hy
        refine ⟨c0 :: cs, ?_, by simp [h2], fun i x c hx hc => ?_⟩
        · simp only [List.mapM_cons, Sem.run_bind, h0, h1, Sem.run_pure, Result.andThen_ok]
        · cases i with
          | zero =>
            simp only [List.getElem?_cons_zero, Option.some.injEq] at hx hc
            subst hx hc
            exact hc0
          | succ i => exact h3 i x c hx hc
      · cases h
    · cases hr

def oneOf : List Value → Value
  | [v] => v
  | vs => .tuple vs.toArray

theorem results_run {fn : Func} {tmps : Array Value} {cs : List Value} (h : (fn.results.toList.mapM (resOfTmp P tmps)).run P w = .ok cs w) : (results fn tmps).run P w = .ok (oneOf cs) w := by
  unfold results
  rw [Array.mapM_eq_mapM_toList]
  show (_root_.Bind.bind (List.toArray <$> fn.results.toList.mapM (resOfTmp P tmps)) _).run P w = _
  rw [Sem.run_bind, Sem.run_map, h]
  match cs with
  | [] => rfl
  | [c] => rfl
  | _ :: _ :: _ => rfl

theorem results_ok (hs : Sim α Im σ w) {fn : Func} {fr : Fr} {ars : List ARes} {v : AVal} (hg : GRel α Im w fr.get a.tmps) (hr : mapO (stripRes P) fn.results.toList = some ars) (h : resultsA ars fr σ = some v) : ∃ cv, (results fn a.tmps).run P w = .ok cv w ∧ Rel α Im w v cv := by
  unfold resultsA at h
  split at h
  · rename_i v' hv
    injection h with h
    subst h
    obtain ⟨cs, h1, h2, h3⟩ := results_key (P := P) hs hg _ _ _ hr hv
    match cs, h2 with
    | [c], _ => exact ⟨c, results_run h1, h3 0 _ _ rfl rfl⟩
  · rename_i vs hne hv
    injection h with h
    subst h
    obtain ⟨cs, h1, h2, h3⟩ := results_key (P := P) hs hg _ _ _ hr hv
    have hl : ∀ v, cs ≠ [v] := by
      intro v e
      subst e
      match vs, h2 with
      | [v], _ => exact hne v rfl
    refine ⟨.tuple cs.toArray, ?_, .tup vs cs.toArray (by simpa using h2) (fun i x c hx hc => h3 i x c hx (by simpa using hc))⟩
    rw [results_run h1]
    match cs, hl with
    | [], _ => rfl
    | [c], hl => exact absurd rfl (hl c)
    | _ :: _ :: _, _ => rfl
  · cases h

/-- The frame at the beginning: the arguments. -/
def frame0 (args : List AVal) : Fr := args.zipIdx.map fun p => (p.2, p.1)

theorem frame0_get (args : List AVal) : ∀ (k s : Nat), Fr.get ((args.zipIdx k).map fun p => (p.2, p.1)) s = if k ≤ s then args.getD (s - k) .undef else .undef := by
  induction args with
  | nil => intro k s; simp [Fr.get]
  | cons x r ih =>
    intro k s
    rw [List.zipIdx_cons, List.map_cons]
    simp only [Fr.get]
    by_cases h : k = s
    · subst h; simp
    · rw [if_neg h, ih (k + 1) s]
      by_cases h2 : k + 1 ≤ s
      · rw [if_pos h2, if_pos (by omega), show s - k = (s - (k + 1)) + 1 by omega]
        simp
      · rw [if_neg h2, if_neg (by omega)]

def lookupK (l : List (Nat × List Nat)) (i : Nat) : List Nat :=
  match l with
  | [] => []
  | (j, x) :: r => if j = i then x else lookupK r i
/-- A function's code, stripped. -/
def stripFn (P : Program) (fn : Func) (k : Nat) (keep : List (Nat × List Nat)) : Option (ACode × List ARes) :=
  if fn.name == "runtime.NumGoroutine" then none else if k ≤ fn.ntmps ∧ P.follows .mixedOrders = true then match fn.body with
    | some c => match stripCode P fn.ntmps (lookupK keep) c, mapO (stripRes P) fn.results.toList with
      | some ac, some rs => some (ac, rs)
      | _, _ => none
    | none => none
  else none
structure IsFunc (P : Program) (f : FuncId) (k : Nat) (ac : ACode) (rs : List ARes) : Prop where
  mk ::
  ex : ∃ fn keep, P.funcs[f]? = some fn ∧ stripFn P fn k keep = some (ac, rs)
theorem isFunc_of {P : Program} {f : FuncId} {fn : Func} {ac : ACode} {rs : List ARes} (k : Nat) (keep : List (Nat × List Nat)) (h : P.funcs[f]? = some fn) (e : stripFn P fn k keep = some (ac, rs)) : IsFunc P f k ac rs := ⟨fn, keep, h, e⟩
theorem IsFunc.fn {f : FuncId} {k : Nat} {ac : ACode} {rs : List ARes} (h : IsFunc P f k ac rs) : ∃ fn c keep, P.funcs[f]? = some fn ∧ fn.body = some c ∧ (fn.name == "runtime.NumGoroutine") = false ∧ k ≤ fn.ntmps ∧ stripCode P fn.ntmps keep c = some ac ∧ mapO (stripRes P) fn.results.toList = some rs ∧ P.follows .mixedOrders = true := by
  obtain ⟨fn, keep, h1, h2⟩ := h.ex
  unfold stripFn at h2
  split at h2
  · cases h2
  · rename_i hn
    split at h2
    · rename_i hk
      split at h2
      · rename_i c hc
        split at h2
        · rename_i ac' rs' ha hr
          injection h2 with h2
          injection h2 with e1 e2
          subst e1 e2
          exact ⟨fn, c, _, h1, hc, by simpa using hn, hk.1, ha, hr, hk.2⟩
        · cases h2
      · cases h2
    · cases h2

theorem enter_rel {fn : Func} {args : List AVal} {cargs : Array Value} (hr : RelL α Im w args cargs) : GRel α Im w (frame0 args).get (cargs ++ Array.replicate (fn.ntmps - cargs.size) undef) := by
  intro s
  have e := frame0_get args 0 s
  simp only [Nat.zero_le, if_true, Nat.sub_zero] at e
  show Rel α Im w (Fr.get (frame0 args) s) _
  unfold frame0
  rw [e]
  by_cases hs : s < cargs.size
  · have hs' : s < args.length := by rw [← hr.1]; exact hs
    have h1 : args[s]? = some args[s] := List.getElem?_eq_getElem hs'
    have h2 : cargs[s]? = some cargs[s] := Array.getElem?_eq_getElem hs
    have := hr.2 s _ _ h1 h2
    have e2 : (cargs ++ Array.replicate (fn.ntmps - cargs.size) undef).getD s undef = cargs[s] := by
      rw [Array.getD_eq_getD_getElem?, Array.getElem?_append_left hs, h2]; rfl
    rw [e2]
    simpa [h1] using this
  · have : args[s]? = none := List.getElem?_eq_none (by rw [← hr.1]; omega)
    simp [this]
    exact .undef _

theorem IsFunc.body {f : FuncId} {k : Nat} {ac : ACode} {rs : List ARes} (h : IsFunc P f k ac rs) : HasBody P f := by
  obtain ⟨fn, c, keep, h1, h2, h3, _⟩ := h.fn
  exact ⟨fn, h1, by rw [h2]; rfl, h3⟩
def endOk (rs : List ARes) (Q : AVal → Store → Prop) : AExit → Fr → Store → Prop := fun e fr σ' => (match e with | .exit _ => False | _ => True) ∧ ∃ v, resultsA rs fr σ' = some v ∧ Q v σ'

theorem good_of_wp {f : FuncId} {k : Nat} {ac : ACode} {rs : List ARes} {args : List AVal} {Q : AVal → Store → Prop} (hf : IsFunc P f k ac rs) (hargs : args.length ≤ k)
    (h : wp P ac (endOk rs Q) (frame0 args) σ) : Good P f args σ Q := by
  refine ⟨hf.body, fun α Im w cargs hs hr => ?_⟩
  obtain ⟨fn, c, keep, h1, h2, h3, h0, h4, h5, h6⟩ := hf.fn
  have hle : args.length ≤ fn.ntmps := by omega
  refine calls_of_wp h1 h2 (wp_mono (code_sound h6 c ac h4 _ (frame0 args) σ α Im { tmps := cargs ++ Array.replicate (fn.ntmps - cargs.size) undef, defers := [] } w h hs (enter_rel hr) (by simp; rw [hr.1]; omega)) ?_)
  rintro e a' w' ⟨ae, fr', σ', α', Im', k1, ⟨k2, v, k3, k4⟩, k5, k6, k7, k8, k9⟩
  obtain ⟨cv, r1, r2⟩ := results_ok (P := P) k5 k6 h5 k3
  have fin : a'.defers = [] ∧ ∃ v, (results fn a'.tmps).run P w' = .ok v w' ∧ ∃ v_1 r σ'_1 α'_1 Im'_1, (Ending.returned v) = .returned v_1 ∧ Q r σ'_1 ∧ Sim α'_1 Im'_1 σ'_1 w' ∧ Rel α'_1 Im'_1 w' r v_1 ∧ Step α Im σ w α'_1 Im'_1 σ'_1 w' :=
    ⟨k8, cv, r1, cv, v, σ', α', Im', rfl, k4, k5, r2, k9⟩
  cases ae <;> cases e <;> simp only [exitRel] at k1
  · exact fin
  · exact k2.elim
  · exact fin

/-- What is known of one value is known of the other. -/
def Sub (x y : AVal) : Prop := ∀ Im w v, Rel Asg.none Im w x v → Rel Asg.none Im w y v
theorem Sub.refl (x : AVal) : Sub x x := fun _ _ _ h => h
theorem sub_nils : Sub .nils (.lst []) := fun _ _ _ h => by cases h; exact .lst0 none 0
theorem sub_emp : Sub .emp (.lst []) := fun _ _ _ h => by cases h; exact .lst0 _ 0
theorem sub_undef (x : AVal) : Sub x .undef := fun _ _ _ _ => .undef _
theorem sub_agg {xs ys : List AVal} (hl : xs.length = ys.length) (h : ∀ (i : Nat) x y, xs[i]? = some x → ys[i]? = some y → Sub x y) : Sub (.agg xs) (.agg ys) := fun Im w v hr => by
  cases hr with
  | agg _ vs hs h1 hr =>
    refine .agg ys vs (by omega) h1 fun i y v hy hv => ?_
    have hi : i < xs.length := by rw [hl]; exact (List.getElem?_eq_some_iff.1 hy).1
    exact h i _ y (List.getElem?_eq_getElem hi) hy Im w v (hr i _ v (List.getElem?_eq_getElem hi) hv)
theorem sub_tup {xs ys : List AVal} (hl : xs.length = ys.length) (h : ∀ (i : Nat) x y, xs[i]? = some x → ys[i]? = some y → Sub x y) : Sub (.tup xs) (.tup ys) := fun Im w v hr => by
  cases hr with
  | tup _ vs hs hr =>
    refine .tup ys vs (by omega) fun i y v hy hv => ?_
    have hi : i < xs.length := by rw [hl]; exact (List.getElem?_eq_some_iff.1 hy).1
    exact h i _ y (List.getElem?_eq_getElem hi) hy Im w v (hr i _ v (List.getElem?_eq_getElem hi) hv)
theorem sub_lst {xs ys : List (List AVal)} (hl : xs.length = ys.length) (h0 : ∀ (i : Nat) x y, xs[i]? = some x → ys[i]? = some y → x.length = y.length) (h : ∀ (i j : Nat) x y u v, xs[i]? = some x → ys[i]? = some y → x[j]? = some u → y[j]? = some v → Sub u v) : Sub (.lst xs) (.lst ys) := fun Im w v hr => by
  have key : ∀ (i : Nat) y, ys[i]? = some y → ∃ x, xs[i]? = some x ∧ x.length = y.length := fun i y hy => by
    have hi : i < xs.length := by rw [hl]; exact (List.getElem?_eq_some_iff.1 hy).1
    exact ⟨_, List.getElem?_eq_getElem hi, h0 i _ y (List.getElem?_eq_getElem hi) hy⟩
  have key2 : ∀ (i j : Nat) y q, ys[i]? = some y → y[j]? = some q → ∃ x u, xs[i]? = some x ∧ x[j]? = some u := fun i j y q hy hq => by
    obtain ⟨x, h1, h2⟩ := key i y hy
    have hj : j < x.length := by rw [h2]; exact (List.getElem?_eq_some_iff.1 hq).1
    exact ⟨x, _, h1, List.getElem?_eq_getElem hj⟩
  cases hr with
  | lst0 a cap =>
    cases ys with
    | nil => exact .lst0 a cap
    | cons _ _ => simp at hl
  | lst _ b base sz cap f him hcap hsz hc hr =>
    rw [hl]
    exact .lst ys b base sz cap f him (by omega) (fun i y hy => by obtain ⟨x, h1, h2⟩ := key i y hy; rw [← h2]; exact hsz i x h1)
      (fun i y j q hy hq => by obtain ⟨x, u, h1, h2⟩ := key2 i j y q hy hq; exact hc i x j u h1 h2)
      (fun i y j q hy hq => by obtain ⟨x, u, h1, h2⟩ := key2 i j y q hy hq; exact h i j x y u q h1 hy h2 hq Im w _ (hr i x j u h1 h2))

/-- A pure function: it begins with nothing of its own; what it answers is a snapshot. -/
theorem pgood_of_good {f : FuncId} {args : List AVal} {r : AVal} (m : Nat) (h : Good P f args Store.empty (fun v σ' => ∃ y, snap m σ' v = some y ∧ Sub y r)) : PGood P f args r := by
  refine ⟨h.1, fun Im w cargs him hr => ?_⟩
  have hs : Sim Asg.none Im Store.empty w := ⟨(fun id o h => by cases h), (fun i j oi oj li lj _ h => by cases h), him, 0, fun _ _ _ => rfl⟩
  refine (h.2 Asg.none Im w cargs hs hr).mono ?_
  rintro e w' ⟨v, x, σ', α', Im', rfl, ⟨y, k1, ksub⟩, k2, k3, k4⟩
  have hno : ∀ b, ¬ Owned Asg.none Store.empty b := fun b ⟨id, o, l, h, _⟩ => by cases h
  obtain ⟨J, f1, f2, f3⟩ := k2.freeze (fun _ => true)
  refine ⟨v, J, rfl, fun b hb => f2.imle b (k4.imle b hb), f1.im, fun b hb => ?_, ?_, ?_⟩
  · rcases f2.imb b hb with h | h | h
    · rcases k4.imb b h with h | h | h
      · exact .inl h
      · exact absurd h (hno b)
      · exact .inr h
    · rcases k4.own b h with h | h
      · exact absurd h (hno b)
      · exact .inr h
    · exact .inr (Nat.le_trans k4.size h)
  · refine ksub _ _ _ ?_
    exact snap_rel k2 f2.imle m x v y k3 k1 (fun id ver fz sz xs l _ hg hl => f3 id ver fz sz xs l hg rfl hl)
  · exact ⟨⟨k4.os, k4.tape, k4.output.1, k4.size, fun b hb => k4.unch b hb (hno b)⟩, k4.output.2⟩

end
end Go.Ab

/- How the abstract logic is used: rewriting rules that run code. -/
set_option linter.unusedVariables false
set_option linter.unusedSimpArgs false
namespace Go.Ab

abbrev AVal.i (n : Int) : AVal := .sc (.int .i64 n)
abbrev AVal.b (t : Bool) : AVal := .sc (.bool t)

/-! ### Continuations -/
def Kseq (P : Program) (b : ACode) (K : AExit → Fr → Store → Prop) : AExit → Fr → Store → Prop := fun e fr' σ' => match e with | .normal => wp P b K fr' σ' | e => K e fr' σ'
def Kblock (id : Nat) (K : AExit → Fr → Store → Prop) : AExit → Fr → Store → Prop := fun e fr' σ' => match e with | .exit i => if i = id then K .normal fr' σ' else K (.exit i) fr' σ' | e => K e fr' σ'
def Kreg (keep : List Nat) (K : AExit → Fr → Store → Prop) : (Nat → AVal) → Store → Prop := fun g σ' => K .normal (keepFr keep g) σ'
def Kops (P : Program) (K : (Nat → AVal) → Store → Prop) (r : List AOper) (d : Option Nat) (L : Fr) : AVal → Store → Prop := fun v σ' => wpOps P K r (putD (Fr.get L) d v) σ'
def KopsD (P : Program) (K : (Nat → AVal) → Store → Prop) (r : List AOper) (d : Option Nat) (L : Fr) : AVal → Store → Prop := fun v σ' => wpOpsD P K r (putD (Fr.get L) d v) σ'
def Norm (K : AExit → Fr → Store → Prop) (fr : Fr) (σ : Store) : Prop := K .normal fr σ
def NewK (σ : Store) (ob : Obj) (k : Nat → AVal) (K : AVal → Store → Prop) : Prop := ∀ id, σ.get id = none → K (k id) (σ.set id ob)
def BrC (P : Program) (p : Prop) (a b : ACode) (K : AExit → Fr → Store → Prop) (fr : Fr) (σ : Store) : Prop := (p → wp P a K fr σ) ∧ (¬ p → wp P b K fr σ)
def CondA (P : Program) (v : AVal) (a b : ACode) (K : AExit → Fr → Store → Prop) (fr : Fr) (σ : Store) : Prop := ∃ t, v = .sc (.bool t) ∧ (if t = true then wp P a K fr σ else wp P b K fr σ)
def BrG (P : Program) (p : Prop) (o : AOper) (K : (Nat → AVal) → Store → Prop) (r : List AOper) (L : Fr) (σ : Store) : Prop := (p → wpOps P K (⟨o.d, o.op, none, o.pre⟩ :: r) (Fr.get L) σ) ∧ (¬ p → Kops P K r o.d L (.tup []) σ)
def BrN (P : Program) (p : Prop) (o : AOper) (K : (Nat → AVal) → Store → Prop) (r : List AOper) (L : Fr) (σ : Store) : Prop := (p → Kops P K r o.d L (.tup []) σ) ∧ (¬ p → wpOps P K (⟨o.d, o.op, none, o.pre⟩ :: r) (Fr.get L) σ)
def BrGD (P : Program) (p : Prop) (o : AOper) (K : (Nat → AVal) → Store → Prop) (r : List AOper) (L : Fr) (σ : Store) : Prop := (p → wpOpsD P K (⟨o.d, o.op, none, o.pre⟩ :: r) (Fr.get L) σ) ∧ (¬ p → KopsD P K r o.d L (.tup []) σ)
def BrND (P : Program) (p : Prop) (o : AOper) (K : (Nat → AVal) → Store → Prop) (r : List AOper) (L : Fr) (σ : Store) : Prop := (p → KopsD P K r o.d L (.tup []) σ) ∧ (¬ p → wpOpsD P K (⟨o.d, o.op, none, o.pre⟩ :: r) (Fr.get L) σ)
def GuardA (P : Program) (want : Bool) (v : AVal) (o : AOper) (K : (Nat → AVal) → Store → Prop) (r : List AOper) (L : Fr) (σ : Store) : Prop := match v with
  | .sc (.bool b) => if b = want then wpOps P K (⟨o.d, o.op, none, o.pre⟩ :: r) (Fr.get L) σ else Kops P K r o.d L (.tup []) σ
  | .tup [] => Kops P K r o.d L (.tup []) σ
  | _ => False
def GuardD (P : Program) (want : Bool) (v : AVal) (o : AOper) (K : (Nat → AVal) → Store → Prop) (r : List AOper) (L : Fr) (σ : Store) : Prop := match v with
  | .sc (.bool b) => if b = want then wpOpsD P K (⟨o.d, o.op, none, o.pre⟩ :: r) (Fr.get L) σ else KopsD P K r o.d L (.tup []) σ
  | .tup [] => KopsD P K r o.d L (.tup []) σ
  | _ => False
def Done (rs : List ARes) (Q : AVal → Store → Prop) (fr : Fr) (σ : Store) : Prop := ∃ v, resultsA rs fr σ = some v ∧ Q v σ
def Ends (o : Option AVal) (Q : AVal → Store → Prop) (σ : Store) : Prop := ∃ v, o = some v ∧ Q v σ

section
variable {P : Program} {K : AExit → Fr → Store → Prop} {fr L : Fr} {σ σ' : Store}


@[go_sem ↓] theorem wp_skip' : wp P .skip K fr σ = K .normal fr σ := propext Iff.rfl
@[go_sem ↓] theorem wp_ret' : wp P .ret K fr σ = K .ret fr σ := propext Iff.rfl
@[go_sem ↓] theorem wp_exit' {i : Nat} : wp P (.exit i) K fr σ = K (.exit i) fr σ := propext Iff.rfl
@[go_sem ↓] theorem wp_seq' {a b : ACode} : wp P (.seq a b) K fr σ = wp P a (Kseq P b K) fr σ := propext Iff.rfl
@[go_sem ↓] theorem wp_block' {i : Nat} {b : ACode} : wp P (.block i b) K fr σ = wp P b (Kblock i K) fr σ := propext Iff.rfl
@[go_sem ↓] theorem wp_reg' {ops : List AOper} {keep : List Nat} : wp P (.reg ops false keep) K fr σ = wpOps P (Kreg keep K) ops (Fr.get fr) σ := propext Iff.rfl
theorem wp_draw {ops : List AOper} {keep : List Nat} (h : drawOk ops = true) : wp P (.reg ops true keep) K fr σ = wpOpsD P (Kreg keep K) ops (Fr.get fr) σ := by simp [wp, h, Kreg]; rfl
theorem wp_tree (T : Tree) {ops : List AOper} {keep : List Nat} (hb : drawOk ops = false) (hT : enough ops T = true) (h : wpTree P ops (Kreg keep K) T (Fr.get fr) σ) : wp P (.reg ops true keep) K fr σ := by
  simp only [wp, hb, if_true, Bool.false_eq_true, if_false]
  exact ⟨T, hT, h⟩
theorem wpTree_leaf {ops : List AOper} {Kx : (Nat → AVal) → Store → Prop} {l : List Nat} {g : Nat → AVal} : wpTree P ops Kx (.leaf l) g σ = wpOpsD P Kx (pickO ops l) g σ := rfl
theorem wpTree_split {ops : List AOper} {Kx : (Nat → AVal) → Store → Prop} {a b : Nat} {x y : Tree} {g : Nat → AVal} : wpTree P ops Kx (.split a b x y) g σ = (wpTree P ops Kx x g σ ∧ wpTree P ops Kx y g σ) := rfl
theorem wpTree_trans {ops : List AOper} {Kx : (Nat → AVal) → Store → Prop} {a b c : Nat} {x : Tree} {g : Nat → AVal} : wpTree P ops Kx (.trans a b c x) g σ = wpTree P ops Kx x g σ := rfl
@[go_sem ↓] theorem wp_cond' {c : Operand} {a b : ACode} : wp P (.cond c a b) K fr σ = CondA P (aeval (Fr.get fr) c) a b K fr σ := propext Iff.rfl

@[go_sem ↓] theorem Kseq_n {b : ACode} : Kseq P b K .normal fr σ = wp P b K fr σ := propext Iff.rfl
@[go_sem ↓] theorem Kseq_r {b : ACode} : Kseq P b K .ret fr σ = K .ret fr σ := propext Iff.rfl
@[go_sem ↓] theorem Kseq_e {b : ACode} {i : Nat} : Kseq P b K (.exit i) fr σ = K (.exit i) fr σ := propext Iff.rfl
@[go_sem ↓] theorem Kblock_n {i : Nat} : Kblock i K .normal fr σ = K .normal fr σ := propext Iff.rfl
@[go_sem ↓] theorem Kblock_r {i : Nat} : Kblock i K .ret fr σ = K .ret fr σ := propext Iff.rfl
@[go_sem ↓] theorem Kblock_e {i : Nat} : Kblock i K (.exit i) fr σ = K .normal fr σ := by simp [Kblock]
theorem Kblock_ne {i j : Nat} (h : (j == i) = false) : Kblock i K (.exit j) fr σ = K (.exit j) fr σ := by
  have : ¬ j = i := by simpa using h
  simp [Kblock, this]

/-! ### Operations -/
@[go_sem ↓] theorem wpOps_nil' {keep : List Nat} : wpOps P (Kreg keep K) [] (Fr.get L) σ = Norm K (keepFr keep (Fr.get L)) σ := propext Iff.rfl
@[go_sem ↓] theorem wpOpsD_nil' {keep : List Nat} : wpOpsD P (Kreg keep K) [] (Fr.get L) σ = Norm K (keepFr keep (Fr.get L)) σ := propext Iff.rfl
@[go_sem] theorem Norm_n : Norm K fr σ = K .normal fr σ := propext Iff.rfl
theorem put_get (L : Fr) (d : Nat) (v : AVal) : put (Fr.get L) d v = Fr.get ((d, v) :: L) := by
  funext j
  simp only [put, Fr.get]
  by_cases h : j = d
  · subst h; simp
  · have : ¬ d = j := fun e => h e.symm
    simp [h, this]
@[go_sem ↓] theorem Kops_d {K : (Nat → AVal) → Store → Prop} {r : List AOper} {d : Nat} {v : AVal} : Kops P K r (some d) L v σ = wpOps P K r (Fr.get ((d, v) :: L)) σ := by rw [← put_get]; exact propext Iff.rfl
@[go_sem ↓] theorem Kops_n {K : (Nat → AVal) → Store → Prop} {r : List AOper} {v : AVal} : Kops P K r none L v σ = wpOps P K r (Fr.get L) σ := propext Iff.rfl
@[go_sem ↓] theorem KopsD_d {K : (Nat → AVal) → Store → Prop} {r : List AOper} {d : Nat} {v : AVal} : KopsD P K r (some d) L v σ = wpOpsD P K r (Fr.get ((d, v) :: L)) σ := by rw [← put_get]; exact propext Iff.rfl
@[go_sem ↓] theorem KopsD_n {K : (Nat → AVal) → Store → Prop} {r : List AOper} {v : AVal} : KopsD P K r none L v σ = wpOpsD P K r (Fr.get L) σ := propext Iff.rfl
@[go_sem ↓] theorem wpOps_c {K : (Nat → AVal) → Store → Prop} {d : Option Nat} {op : AOp} {pre : List Nat} {r : List AOper} :
    wpOps P K (⟨d, op, none, pre⟩ :: r) (Fr.get L) σ = wpRes P (stepA (aeval (Fr.get L)) σ op) (Kops P K r d L) σ := propext Iff.rfl
@[go_sem ↓] theorem wpOpsD_c {K : (Nat → AVal) → Store → Prop} {d : Option Nat} {op : AOp} {pre : List Nat} {r : List AOper} :
    wpOpsD P K (⟨d, op, none, pre⟩ :: r) (Fr.get L) σ = wpResD P (stepA (aeval (Fr.get L)) σ op) (KopsD P K r d L) σ := propext Iff.rfl
theorem guard_eq {t : Bool} {v : AVal} {A B : Prop} : (match v with | .sc (.bool b) => if b = t then A else B | .tup [] => B | _ => False : Prop) = (match (match v with | .sc (.bool b) => some (b == t) | .tup [] => some false | _ => none : Option Bool) with | none => False | some false => B | some true => A) := by
  split
  · rename_i b; cases b <;> cases t <;> simp
  · rfl
  · rename_i h1 h2
    split
    · rfl
    · rename_i h; cases h
    · rename_i h; cases h
@[go_sem ↓] theorem wpOps_g {K : (Nat → AVal) → Store → Prop} {d : Option Nat} {op : AOp} {s : Nat} {t : Bool} {pre : List Nat} {r : List AOper} :
    wpOps P K (⟨d, op, some (s, t), pre⟩ :: r) (Fr.get L) σ = GuardA P t (Fr.get L s) ⟨d, op, none, pre⟩ K r L σ := by
  unfold GuardA; rw [guard_eq]; exact propext Iff.rfl
@[go_sem ↓] theorem wpOpsD_g {K : (Nat → AVal) → Store → Prop} {d : Option Nat} {op : AOp} {s : Nat} {t : Bool} {pre : List Nat} {r : List AOper} :
    wpOpsD P K (⟨d, op, some (s, t), pre⟩ :: r) (Fr.get L) σ = GuardD P t (Fr.get L s) ⟨d, op, none, pre⟩ K r L σ := by
  unfold GuardD; rw [guard_eq]; exact propext Iff.rfl

@[go_sem] theorem wpRes_val {v : AVal} {K : AVal → Store → Prop} : wpRes P (.val v σ') K σ = K v σ' := propext Iff.rfl
@[go_sem] theorem wpRes_new {ob : Obj} {k : Nat → AVal} {K : AVal → Store → Prop} : wpRes P (.new ob k) K σ = NewK σ ob k K := propext Iff.rfl
@[go_sem] theorem wpRes_both {x y : AVal} {K : AVal → Store → Prop} : wpRes P (.both x y) K σ = (K x σ ∧ K y σ) := propext Iff.rfl
@[go_sem] theorem wpResD_both {x y : AVal} {K : AVal → Store → Prop} : wpResD P (.both x y) K σ = (K x σ ∧ K y σ) := propext Iff.rfl
@[go_sem] theorem wpRes_call {f : FuncId} {args : List AVal} {K : AVal → Store → Prop} : wpRes P (.call f args) K σ = Good P f args σ K := propext Iff.rfl
@[go_sem] theorem wpRes_ite {c : Prop} [Decidable c] {r : Res} {K : AVal → Store → Prop} : wpRes P (if c then r else .stuck) K σ = (c ∧ wpRes P r K σ) := by
  by_cases h : c <;> simp [h, wpRes]
@[go_sem] theorem wpResD_val {v : AVal} {K : AVal → Store → Prop} : wpResD P (.val v σ') K σ = K v σ' := propext Iff.rfl
@[go_sem] theorem wpResD_new {ob : Obj} {k : Nat → AVal} {K : AVal → Store → Prop} : wpResD P (.new ob k) K σ = NewK σ ob k K := propext Iff.rfl
@[go_sem] theorem wpResD_ite {c : Prop} [Decidable c] {r : Res} {K : AVal → Store → Prop} : wpResD P (if c then r else .stuck) K σ = (c ∧ wpResD P r K σ) := by
  by_cases h : c <;> simp [h, wpResD]

@[go_sem] theorem CondA_t {a b : ACode} : CondA P (.sc (.bool true)) a b K fr σ = wp P a K fr σ := by simp [CondA]
@[go_sem] theorem CondA_f {a b : ACode} : CondA P (.sc (.bool false)) a b K fr σ = wp P b K fr σ := by simp [CondA]
@[go_sem] theorem CondA_d {p : Prop} {a b : ACode} [Decidable p] : CondA P (.sc (.bool (decide p))) a b K fr σ = BrC P p a b K fr σ := by
  by_cases h : p <;> simp [CondA, BrC, h]
@[go_sem] theorem CondA_n {p : Prop} {a b : ACode} [Decidable p] : CondA P (.sc (.bool (!decide p))) a b K fr σ = BrC P p b a K fr σ := by
  by_cases h : p <;> simp [CondA, BrC, h]
theorem CondA_b {t : Bool} {a b : ACode} : CondA P (.sc (.bool t)) a b K fr σ = BrC P (t = true) a b K fr σ := by
  cases t <;> simp [CondA, BrC]
@[go_sem] theorem BrC_t {a b : ACode} : BrC P True a b K fr σ = wp P a K fr σ := by simp [BrC]
@[go_sem] theorem BrC_f {a b : ACode} : BrC P False a b K fr σ = wp P b K fr σ := by simp [BrC]
theorem BrC.intro {p : Prop} {a b : ACode} (h : p → wp P a K fr σ) (h' : ¬ p → wp P b K fr σ) : BrC P p a b K fr σ := ⟨h, h'⟩
@[go_sem] theorem GuardA_tt {o : AOper} {K : (Nat → AVal) → Store → Prop} {r : List AOper} : GuardA P true (.sc (.bool true)) o K r L σ = wpOps P K (⟨o.d, o.op, none, o.pre⟩ :: r) (Fr.get L) σ := by simp [GuardA]
@[go_sem] theorem GuardA_tf {o : AOper} {K : (Nat → AVal) → Store → Prop} {r : List AOper} : GuardA P true (.sc (.bool false)) o K r L σ = Kops P K r o.d L (.tup []) σ := by simp [GuardA]
@[go_sem] theorem GuardA_td {p : Prop} [Decidable p] {o : AOper} {K : (Nat → AVal) → Store → Prop} {r : List AOper} : GuardA P true (.sc (.bool (decide p))) o K r L σ = BrG P p o K r L σ := by
  by_cases h : p <;> simp [GuardA, BrG, h]
@[go_sem] theorem GuardA_tn {p : Prop} [Decidable p] {o : AOper} {K : (Nat → AVal) → Store → Prop} {r : List AOper} : GuardA P true (.sc (.bool (!decide p))) o K r L σ = BrN P p o K r L σ := by
  by_cases h : p <;> simp [GuardA, BrN, h]
@[go_sem] theorem GuardA_ft {o : AOper} {K : (Nat → AVal) → Store → Prop} {r : List AOper} : GuardA P false (.sc (.bool true)) o K r L σ = Kops P K r o.d L (.tup []) σ := by simp [GuardA]
@[go_sem] theorem GuardA_ff {o : AOper} {K : (Nat → AVal) → Store → Prop} {r : List AOper} : GuardA P false (.sc (.bool false)) o K r L σ = wpOps P K (⟨o.d, o.op, none, o.pre⟩ :: r) (Fr.get L) σ := by simp [GuardA]
@[go_sem] theorem GuardA_fd {p : Prop} [Decidable p] {o : AOper} {K : (Nat → AVal) → Store → Prop} {r : List AOper} : GuardA P false (.sc (.bool (decide p))) o K r L σ = BrN P p o K r L σ := by
  by_cases h : p <;> simp [GuardA, BrN, h]
@[go_sem] theorem GuardA_fn {p : Prop} [Decidable p] {o : AOper} {K : (Nat → AVal) → Store → Prop} {r : List AOper} : GuardA P false (.sc (.bool (!decide p))) o K r L σ = BrG P p o K r L σ := by
  by_cases h : p <;> simp [GuardA, BrG, h]
@[go_sem] theorem GuardA_u {t : Bool} {o : AOper} {K : (Nat → AVal) → Store → Prop} {r : List AOper} : GuardA P t (.tup []) o K r L σ = Kops P K r o.d L (.tup []) σ := by simp [GuardA]
@[go_sem] theorem BrG_t {o : AOper} {K : (Nat → AVal) → Store → Prop} {r : List AOper} : BrG P True o K r L σ = wpOps P K (⟨o.d, o.op, none, o.pre⟩ :: r) (Fr.get L) σ := by simp [BrG]
@[go_sem] theorem BrG_f {o : AOper} {K : (Nat → AVal) → Store → Prop} {r : List AOper} : BrG P False o K r L σ = Kops P K r o.d L (.tup []) σ := by simp [BrG]
theorem BrG.intro {p : Prop} {o : AOper} {K : (Nat → AVal) → Store → Prop} {r : List AOper} (h : p → wpOps P K (⟨o.d, o.op, none, o.pre⟩ :: r) (Fr.get L) σ) (h' : ¬ p → Kops P K r o.d L (.tup []) σ) : BrG P p o K r L σ := ⟨h, h'⟩
@[go_sem] theorem BrN_t {o : AOper} {K : (Nat → AVal) → Store → Prop} {r : List AOper} : BrN P True o K r L σ = Kops P K r o.d L (.tup []) σ := by simp [BrN]
@[go_sem] theorem BrN_f {o : AOper} {K : (Nat → AVal) → Store → Prop} {r : List AOper} : BrN P False o K r L σ = wpOps P K (⟨o.d, o.op, none, o.pre⟩ :: r) (Fr.get L) σ := by simp [BrN]
theorem BrN.intro {p : Prop} {o : AOper} {K : (Nat → AVal) → Store → Prop} {r : List AOper} (h : p → Kops P K r o.d L (.tup []) σ) (h' : ¬ p → wpOps P K (⟨o.d, o.op, none, o.pre⟩ :: r) (Fr.get L) σ) : BrN P p o K r L σ := ⟨h, h'⟩
@[go_sem] theorem GuardD_tt {o : AOper} {K : (Nat → AVal) → Store → Prop} {r : List AOper} : GuardD P true (.sc (.bool true)) o K r L σ = wpOpsD P K (⟨o.d, o.op, none, o.pre⟩ :: r) (Fr.get L) σ := by simp [GuardD]
@[go_sem] theorem GuardD_tf {o : AOper} {K : (Nat → AVal) → Store → Prop} {r : List AOper} : GuardD P true (.sc (.bool false)) o K r L σ = KopsD P K r o.d L (.tup []) σ := by simp [GuardD]
@[go_sem] theorem GuardD_td {p : Prop} [Decidable p] {o : AOper} {K : (Nat → AVal) → Store → Prop} {r : List AOper} : GuardD P true (.sc (.bool (decide p))) o K r L σ = BrGD P p o K r L σ := by
  by_cases h : p <;> simp [GuardD, BrGD, h]
@[go_sem] theorem GuardD_tn {p : Prop} [Decidable p] {o : AOper} {K : (Nat → AVal) → Store → Prop} {r : List AOper} : GuardD P true (.sc (.bool (!decide p))) o K r L σ = BrND P p o K r L σ := by
  by_cases h : p <;> simp [GuardD, BrND, h]
@[go_sem] theorem GuardD_ft {o : AOper} {K : (Nat → AVal) → Store → Prop} {r : List AOper} : GuardD P false (.sc (.bool true)) o K r L σ = KopsD P K r o.d L (.tup []) σ := by simp [GuardD]
@[go_sem] theorem GuardD_ff {o : AOper} {K : (Nat → AVal) → Store → Prop} {r : List AOper} : GuardD P false (.sc (.bool false)) o K r L σ = wpOpsD P K (⟨o.d, o.op, none, o.pre⟩ :: r) (Fr.get L) σ := by simp [GuardD]
@[go_sem] theorem GuardD_fd {p : Prop} [Decidable p] {o : AOper} {K : (Nat → AVal) → Store → Prop} {r : List AOper} : GuardD P false (.sc (.bool (decide p))) o K r L σ = BrND P p o K r L σ := by
  by_cases h : p <;> simp [GuardD, BrND, h]
@[go_sem] theorem GuardD_fn {p : Prop} [Decidable p] {o : AOper} {K : (Nat → AVal) → Store → Prop} {r : List AOper} : GuardD P false (.sc (.bool (!decide p))) o K r L σ = BrGD P p o K r L σ := by
  by_cases h : p <;> simp [GuardD, BrGD, h]
@[go_sem] theorem GuardD_u {t : Bool} {o : AOper} {K : (Nat → AVal) → Store → Prop} {r : List AOper} : GuardD P t (.tup []) o K r L σ = KopsD P K r o.d L (.tup []) σ := by simp [GuardD]
@[go_sem] theorem BrGD_t {o : AOper} {K : (Nat → AVal) → Store → Prop} {r : List AOper} : BrGD P True o K r L σ = wpOpsD P K (⟨o.d, o.op, none, o.pre⟩ :: r) (Fr.get L) σ := by simp [BrGD]
@[go_sem] theorem BrGD_f {o : AOper} {K : (Nat → AVal) → Store → Prop} {r : List AOper} : BrGD P False o K r L σ = KopsD P K r o.d L (.tup []) σ := by simp [BrGD]
theorem BrGD.intro {p : Prop} {o : AOper} {K : (Nat → AVal) → Store → Prop} {r : List AOper} (h : p → wpOpsD P K (⟨o.d, o.op, none, o.pre⟩ :: r) (Fr.get L) σ) (h' : ¬ p → KopsD P K r o.d L (.tup []) σ) : BrGD P p o K r L σ := ⟨h, h'⟩
@[go_sem] theorem BrND_t {o : AOper} {K : (Nat → AVal) → Store → Prop} {r : List AOper} : BrND P True o K r L σ = KopsD P K r o.d L (.tup []) σ := by simp [BrND]
@[go_sem] theorem BrND_f {o : AOper} {K : (Nat → AVal) → Store → Prop} {r : List AOper} : BrND P False o K r L σ = wpOpsD P K (⟨o.d, o.op, none, o.pre⟩ :: r) (Fr.get L) σ := by simp [BrND]
theorem BrND.intro {p : Prop} {o : AOper} {K : (Nat → AVal) → Store → Prop} {r : List AOper} (h : p → KopsD P K r o.d L (.tup []) σ) (h' : ¬ p → wpOpsD P K (⟨o.d, o.op, none, o.pre⟩ :: r) (Fr.get L) σ) : BrND P p o K r L σ := ⟨h, h'⟩

/-! ### The end -/
@[go_sem ↓] theorem endOk_r {rs : List ARes} {Q : AVal → Store → Prop} : endOk rs Q .ret fr σ = Ends (resultsA rs fr σ) Q σ := by simp [endOk, Ends]
@[go_sem ↓] theorem endOk_n {rs : List ARes} {Q : AVal → Store → Prop} : endOk rs Q .normal fr σ = Ends (resultsA rs fr σ) Q σ := by simp [endOk, Ends]
@[go_sem] theorem Ends_some {v : AVal} {Q : AVal → Store → Prop} : Ends (some v) Q σ = Q v σ := by simp [Ends]

/-! ### Values -/
attribute [go_sem] resultsA resVarA mapO keepFr List.map_cons List.map_nil Option.map_some Option.map_none
@[go_sem] theorem get_nil {j : Nat} : Fr.get [] j = .undef := Eq.trans rfl rfl
@[go_sem] theorem get_cons {i j : Nat} {v : AVal} : Fr.get ((i, v) :: L) j = if i = j then v else Fr.get L j := Eq.trans rfl rfl
@[go_sem] theorem aeval_t {g : Nat → AVal} {t : Nat} : aeval g (.tmp t) = g t := Eq.trans rfl rfl
@[go_sem] theorem aeval_f {g : Nat → AVal} {f : FuncId} : aeval g (.func f) = .func f [] := Eq.trans rfl rfl
@[go_sem] theorem aeval_i {g : Nat → AVal} {k : IntKind} {n : Int} : aeval g (.const (.int k n)) = .sc (.int k n) := Eq.trans rfl rfl
@[go_sem] theorem aeval_b {g : Nat → AVal} {t : Bool} : aeval g (.const (.bool t)) = .sc (.bool t) := Eq.trans rfl rfl
@[go_sem] theorem aeval_s {g : Nat → AVal} {s : ByteArray} : aeval g (.const (.string s)) = .sc (.string s) := Eq.trans rfl rfl
@[go_sem] theorem aeval_p {g : Nat → AVal} : aeval g (.const (.pointer none)) = .nilp := Eq.trans rfl rfl
@[go_sem] theorem aeval_sl {g : Nat → AVal} : aeval g (.const (.slice none 0 0)) = .nils := Eq.trans rfl rfl
@[go_sem] theorem aeval_m {g : Nat → AVal} : aeval g (.const (.map none)) = .nilm := Eq.trans rfl rfl
@[go_sem] theorem aeval_nf {g : Nat → AVal} : aeval g (.const .nilFunc) = .nilf := Eq.trans rfl rfl
@[go_sem] theorem aeval_u {g : Nat → AVal} : aeval g (.const (.tuple #[])) = .tup [] := Eq.trans rfl rfl
def lenA (σ : Store) (v : AVal) : Res := match v with
  | .nils | .emp => .val (.sc (.int .i64 0)) σ
  | .lst xs => .val (.sc (.int .i64 xs.length)) σ
  | .sl _ _ _ len _ => .val (.sc (.int .i64 len)) σ
  | _ => .stuck
@[go_sem ↓] theorem step_lenS {ρ : Operand → AVal} {x : Operand} : stepA ρ σ (.lenS x) = lenA σ (ρ x) := by simp only [stepA]; rfl
@[go_sem] theorem lenA_lst {xs : List (List AVal)} : lenA σ (.lst xs) = .val (.sc (.int .i64 xs.length)) σ := Eq.trans rfl rfl
@[go_sem] theorem lenA_nils : lenA σ .nils = .val (.sc (.int .i64 0)) σ := Eq.trans rfl rfl
@[go_sem] theorem lenA_emp : lenA σ .emp = .val (.sc (.int .i64 0)) σ := Eq.trans rfl rfl
@[go_sem] theorem lenA_sl {id ver off len sz : Nat} : lenA σ (.sl id ver off len sz) = .val (.sc (.int .i64 len)) σ := Eq.trans rfl rfl
@[go_sem] theorem known_sc {v : Value} : known (.sc v) = some [(.sc v)] := Eq.trans rfl rfl
@[go_sem] theorem known_nilp  : known .nilp = some [.nilp] := Eq.trans rfl rfl
@[go_sem] theorem known_ptr {a b c d : Nat} : known (.ptr a b c d) = some [(.ptr a b c d)] := Eq.trans rfl rfl
@[go_sem] theorem known_iptr {a : List AVal} {b : Nat} : known (.iptr a b) = some [(.iptr a b)] := Eq.trans rfl rfl
@[go_sem] theorem known_nils  : known .nils = some [.nils] := Eq.trans rfl rfl
@[go_sem] theorem known_lst {a : List (List AVal)} : known (.lst a) = some [(.lst a)] := Eq.trans rfl rfl
@[go_sem] theorem known_emp  : known .emp = some [.emp] := Eq.trans rfl rfl
@[go_sem] theorem known_sl {a b c d e : Nat} : known (.sl a b c d e) = some [(.sl a b c d e)] := Eq.trans rfl rfl
@[go_sem] theorem known_nilm  : known .nilm = some [.nilm] := Eq.trans rfl rfl
@[go_sem] theorem known_map {a : Nat} : known (.map a) = some [(.map a)] := Eq.trans rfl rfl
@[go_sem] theorem known_nilf  : known .nilf = some [.nilf] := Eq.trans rfl rfl
@[go_sem] theorem known_func {f : FuncId} {a : List AVal} : known (.func f a) = some [(.func f a)] := Eq.trans rfl rfl
@[go_sem] theorem known_agg {cs : List AVal} : known (.agg cs) = some cs := Eq.trans rfl rfl
attribute [go_sem] stepA opt buildA buildRows setRange partA idxOf loB hiB bounds srcRows minmaxA negB eqPtrA eqSlR eqCells eqK
attribute [go_sem] List.length_cons List.length_nil List.length_append List.length_map List.length_replicate List.take_succ_cons List.take_zero List.drop_succ_cons List.drop_zero List.take_nil List.drop_nil List.nil_append List.cons_append List.append_nil List.getElem?_cons_zero List.getElem?_cons_succ List.getElem?_nil List.set_cons_zero List.set_cons_succ List.replicate_succ List.replicate_zero
attribute [go_sem] Bool.not_true Bool.not_false Bool.true_and Bool.and_true Bool.false_and Bool.and_false Bool.or_true Bool.true_or Bool.or_false Bool.false_or
@[go_sem] theorem rowAt_of {id ver v : Nat} {fz : Bool} {sz : Nat} {xs : List (List AVal)} (h : σ.get id = some (.row v fz sz xs)) : rowAt σ id ver = if v = ver then some (fz, sz, xs) else none := by
  unfold rowAt; rw [h]
theorem rowAt_set {id ver v : Nat} {fz : Bool} {sz : Nat} {xs : List (List AVal)} : rowAt (σ.set id (.row v fz sz xs)) id ver = if v = ver then some (fz, sz, xs) else none := rowAt_of (by simp)
@[go_sem] theorem rowAt_self {id v : Nat} {fz : Bool} {sz : Nat} {xs : List (List AVal)} : rowAt (σ.set id (.row v fz sz xs)) id v = some (fz, sz, xs) := by rw [rowAt_set, if_pos rfl]
theorem rowAt_ne {id j ver : Nat} {o : Obj} (h : j ≠ id) : rowAt (σ.set id o) j ver = rowAt σ j ver := by unfold rowAt; rw [Store.get_set_ne _ _ h]
/-- An object that is new is none of those that are there. -/
theorem rowAt_fresh {id j ver : Nat} {o : Obj} (hid : σ.get id = none) (h : (rowAt σ j ver).isSome = true) : rowAt (σ.set id o) j ver = rowAt σ j ver := by
  refine rowAt_ne fun e => ?_
  subst e
  simp [rowAt, hid] at h
theorem get_fresh {id j : Nat} {o : Obj} (hid : σ.get id = none) (h : (σ.get j).isSome = true) : (σ.set id o).get j = σ.get j := by
  refine Store.get_set_ne _ _ fun e => ?_
  subst e
  simp [hid] at h

@[go_sem] theorem bin_add {k : IntKind} {a b : Int} : binA .add (.sc (.int k a)) (.sc (.int k b)) = some (.sc (.int k (k.wrap (a + b)))) := by simp [binA]
@[go_sem] theorem bin_sub {k : IntKind} {a b : Int} : binA .sub (.sc (.int k a)) (.sc (.int k b)) = some (.sc (.int k (k.wrap (a - b)))) := by simp [binA]
@[go_sem] theorem bin_mul {k : IntKind} {a b : Int} : binA .mul (.sc (.int k a)) (.sc (.int k b)) = some (.sc (.int k (k.wrap (a * b)))) := by simp [binA]
@[go_sem] theorem bin_quo {k : IntKind} {a b : Int} : binA .quo (.sc (.int k a)) (.sc (.int k b)) = if b = 0 then none else some (.sc (.int k (k.wrap (a.tdiv b)))) := by simp [binA]
@[go_sem] theorem bin_rem {k : IntKind} {a b : Int} : binA .rem (.sc (.int k a)) (.sc (.int k b)) = if b = 0 then none else some (.sc (.int k (a.tmod b))) := by simp [binA]
@[go_sem] theorem bin_eql {k : IntKind} {a b : Int} : binA .eql (.sc (.int k a)) (.sc (.int k b)) = some (.sc (.bool (decide (a = b)))) := by simp [binA]; rfl
@[go_sem] theorem bin_neq {k : IntKind} {a b : Int} : binA .neq (.sc (.int k a)) (.sc (.int k b)) = some (.sc (.bool (!decide (a = b)))) := by simp [binA]; rfl
@[go_sem] theorem bin_lss {k : IntKind} {a b : Int} : binA .lss (.sc (.int k a)) (.sc (.int k b)) = some (.sc (.bool (decide (a < b)))) := by simp [binA]
@[go_sem] theorem bin_leq {k : IntKind} {a b : Int} : binA .leq (.sc (.int k a)) (.sc (.int k b)) = some (.sc (.bool (decide (a ≤ b)))) := by simp [binA]
@[go_sem] theorem bin_gtr {k : IntKind} {a b : Int} : binA .gtr (.sc (.int k a)) (.sc (.int k b)) = some (.sc (.bool (decide (b < a)))) := by simp [binA]
@[go_sem] theorem bin_geq {k : IntKind} {a b : Int} : binA .geq (.sc (.int k a)) (.sc (.int k b)) = some (.sc (.bool (decide (b ≤ a)))) := by simp [binA]
theorem wrap_id {n : Int} (h : -9223372036854775808 ≤ n) (h' : n < 9223372036854775808) : IntKind.i64.wrap n = n := by
  simp [IntKind.wrap, IntKind.bits, IntKind.signed]
  omega
@[go_sem] theorem get_frame0 {args : List AVal} {j : Nat} : Fr.get (frame0 args) j = args.getD j .undef := by
  have := frame0_get args 0 j
  simpa [frame0] using this
attribute [go_sem] List.getD_cons_zero List.getD_cons_succ List.getD_nil
end
end Go.Ab

/- More rules; ends. -/
set_option linter.unusedVariables false
set_option linter.unusedSimpArgs false
namespace Go.Ab
section
variable {P : Program} {K : AExit → Fr → Store → Prop} {fr L : Fr} {σ σ' : Store} {m : Nat}

def GoodD (P : Program) (f : FuncId) (args : List AVal) (σ : Store) (K : AVal → Store → Prop) : Prop := ∃ n xs r, snapL n σ args = some xs ∧ PGood P f xs r ∧ Calm n σ args r ∧ K r σ
/-- What a function answers, seen from outside. -/
def Out (m : Nat) (σ : Store) (v r : AVal) : Prop := ∃ y, snap m σ v = some y ∧ Sub y r
theorem pgood_of_out {f : FuncId} {args : List AVal} {r : AVal} (m : Nat) (h : Good P f args Store.empty (fun v σ' => Out m σ' v r)) : PGood P f args r := pgood_of_good m h
theorem out_sc {v : Value} : Out (m + 1) σ (.sc v) (.sc v) := ⟨_, rfl, Sub.refl _⟩
theorem out_nil : Out (m + 1) σ (.tup []) (.tup []) := ⟨_, rfl, Sub.refl _⟩
theorem out_undef {r : AVal} (v : AVal) (h : Out m σ v r) : Out m σ v r := h
theorem out_nils : Out (m + 1) σ .nils (.lst []) := ⟨_, rfl, sub_nils⟩
theorem out_emp : Out (m + 1) σ .emp (.lst []) := ⟨_, rfl, sub_emp⟩
theorem out_lst {xs : List (List AVal)} : Out (m + 1) σ (.lst xs) (.lst xs) := ⟨_, rfl, Sub.refl _⟩
theorem out_tup2 {a b c d : AVal} (h1 : Out m σ a c) (h2 : Out m σ b d) : Out (m + 1) σ (.tup [a, b]) (.tup [c, d]) := by
  obtain ⟨y, h1, h1'⟩ := h1
  obtain ⟨z, h2, h2'⟩ := h2
  refine ⟨.tup [y, z], by simp [snap, mapO, h1, h2], sub_tup rfl fun i x y hx hy => ?_⟩
  match i with
  | 0 => simp at hx hy; subst hx hy; exact h1'
  | 1 => simp at hx hy; subst hx hy; exact h2'
  | i + 2 => simp at hx
theorem out_tup3 {a b c d e f : AVal} (h1 : Out m σ a d) (h2 : Out m σ b e) (h3 : Out m σ c f) : Out (m + 1) σ (.tup [a, b, c]) (.tup [d, e, f]) := by
  obtain ⟨y, h1, h1'⟩ := h1
  obtain ⟨z, h2, h2'⟩ := h2
  obtain ⟨u, h3, h3'⟩ := h3
  refine ⟨.tup [y, z, u], by simp [snap, mapO, h1, h2, h3], sub_tup rfl fun i x y hx hy => ?_⟩
  match i with
  | 0 => simp at hx hy; subst hx hy; exact h1'
  | 1 => simp at hx hy; subst hx hy; exact h2'
  | 2 => simp at hx hy; subst hx hy; exact h3'
  | i + 3 => simp at hx

/-- Ints, as the rows of a slice. -/
def ints (l : List Int) : List (List AVal) := l.map fun n => [.sc (.int .i64 n)]
def bools (l : List Bool) : List (List AVal) := l.map fun n => [.sc (.bool n)]
@[go_sem] theorem ints_len (l : List Int) : (ints l).length = l.length := by simp [ints]
@[go_sem] theorem bools_len (l : List Bool) : (bools l).length = l.length := by simp [bools]
theorem ints_get {l : List Int} {i : Nat} {x : Int} (h : l[i]? = some x) : (ints l)[i]? = some [.sc (.int .i64 x)] := by simp [ints, h]
theorem bools_get {l : List Bool} {i : Nat} {x : Bool} (h : l[i]? = some x) : (bools l)[i]? = some [.sc (.bool x)] := by simp [bools, h]
theorem ints_app (l m : List Int) : ints (l ++ m) = ints l ++ ints m := by simp [ints]
theorem bools_app (l m : List Bool) : bools (l ++ m) = bools l ++ bools m := by simp [bools]
theorem ints_one (n : Int) : ints [n] = [[.sc (.int .i64 n)]] := rfl
theorem ints_rep (n : Int) (k : Nat) : ints (List.replicate k n) = List.replicate k [.sc (.int .i64 n)] := by simp [ints]
theorem bools_rep (n : Bool) (k : Nat) : bools (List.replicate k n) = List.replicate k [.sc (.bool n)] := by simp [bools]
theorem ints_set (l : List Int) (i : Nat) (n : Int) : ints (l.set i n) = (ints l).set i [.sc (.int .i64 n)] := by simp [ints]
theorem bools_set (l : List Bool) (i : Nat) (n : Bool) : bools (l.set i n) = (bools l).set i [.sc (.bool n)] := by simp [bools]
@[go_sem] theorem ints_all (l : List Int) : (ints l).all (·.length == 1) = true := by simp [ints]
@[go_sem] theorem bools_all (l : List Bool) : (bools l).all (·.length == 1) = true := by simp [bools]

theorem mapO_map {α β γ : Type} {f : β → Option γ} {g : α → β} {h : α → γ} (e : ∀ x, f (g x) = some (h x)) : ∀ l : List α, mapO f (l.map g) = some (l.map h)
  | [] => rfl
  | x :: r => by simp [mapO, e x, mapO_map e r]
theorem snap_row (n : Nat) (σ : Store) : ∀ cs : List AVal, (∀ c ∈ cs, ∃ v, c = .sc v) → mapO (snap (n + 1) σ) cs = some cs
  | [], _ => rfl
  | c :: r, h => by
    obtain ⟨v, rfl⟩ := h c (by simp)
    have := snap_row n σ r (fun c hc => h c (by simp [hc]))
    simp only [mapO, this]
    rfl
/-- A row of scalars. -/
theorem out_sl {id ver off len sz : Nat} {fz : Bool} {xs ys : List (List AVal)} (h : rowAt σ id ver = some (fz, sz, xs)) (hl : off + len ≤ xs.length) (hy : (xs.drop off).take len = ys) (hs : ∀ y ∈ ys, ∀ c ∈ y, ∃ v, c = .sc v) :
    Out (m + 2) σ (.sl id ver off len sz) (.lst ys) := by
  refine ⟨.lst ys, ?_, Sub.refl _⟩
  have e : mapO (mapO (snap (m + 1) σ)) ys = some ys := mapO_id fun y hy' => snap_row m σ y (hs y hy')
  unfold snap
  simp only [h, hl, and_self, if_true, hy, e, Option.map_some]
theorem ints_sc (l : List Int) : ∀ y ∈ ints l, ∀ c ∈ y, ∃ v, c = .sc v := by
  intro y hy c hc
  simp only [ints, List.mem_map] at hy
  obtain ⟨n, _, rfl⟩ := hy
  simp at hc
  exact ⟨_, hc⟩
theorem bools_sc (l : List Bool) : ∀ y ∈ bools l, ∀ c ∈ y, ∃ v, c = .sc v := by
  intro y hy c hc
  simp only [bools, List.mem_map] at hy
  obtain ⟨n, _, rfl⟩ := hy
  simp at hc
  exact ⟨_, hc⟩

/-! ### Calls of pure functions -/
def immA : Nat → AVal → Bool
  | 0, _ => false
  | n + 1, v => match v with
    | .sl _ _ _ _ _ | .ptr _ _ _ _ | .map _ => false
    | .func _ cs | .agg cs | .tup cs => cs.all (immA n)
    | _ => true
theorem imm_snap : ∀ (n : Nat) (v : AVal), immA n v = true → snap n σ v = some v ∧ reach n σ v = []
  | 0, v, h => by cases h
  | n + 1, v, h => by
    have key : ∀ cs : List AVal, cs.all (immA n) = true → mapO (snap n σ) cs = some cs ∧ cs.flatMap (reach n σ) = [] := fun cs hcs =>
      ⟨mapO_id fun x hx => (imm_snap n x (List.all_eq_true.1 hcs x hx)).1, List.flatMap_eq_nil_iff.2 fun x hx => (imm_snap n x (List.all_eq_true.1 hcs x hx)).2⟩
    cases v with
    | sl | ptr | map => cases h
    | func f cs => obtain ⟨h1, h2⟩ := key cs h; exact ⟨by simp [snap, h1], by simpa [reach] using h2⟩
    | agg cs => obtain ⟨h1, h2⟩ := key cs h; exact ⟨by simp [snap, h1], by simpa [reach] using h2⟩
    | tup cs => obtain ⟨h1, h2⟩ := key cs h; exact ⟨by simp [snap, h1], by simpa [reach] using h2⟩
    | _ => exact ⟨rfl, rfl⟩
theorem imm_snapL {n : Nat} {args : List AVal} (h : args.all (immA n) = true) : snapL n σ args = some args ∧ reachL n σ args = [] :=
  ⟨mapO_id fun x hx => (imm_snap n x (List.all_eq_true.1 h x hx)).1, List.flatMap_eq_nil_iff.2 fun x hx => (imm_snap n x (List.all_eq_true.1 h x hx)).2⟩
theorem after_nil {n : Nat} {args : List AVal} {r : AVal} (h : reachL n σ args = []) : after n σ args r = σ := by
  unfold after
  split
  · rfl
  · refine Store.ext fun i => ?_
    rw [Store.get_freeze, h]
    cases hg : σ.get i with
    | none => rfl
    | some o => cases o <;> simp
theorem good_imm {f : FuncId} {args : List AVal} {r : AVal} {Q : AVal → Store → Prop} (hp : PGood P f args r) (h : args.all (immA 4) = true) (hQ : Q r σ) : Good P f args σ Q := by
  obtain ⟨h1, h2⟩ := imm_snapL (σ := σ) h
  exact good_of_pgood 4 h1 hp (by rw [after_nil h2]; exact hQ)
@[go_sem] theorem wpResD_call {f : FuncId} {args : List AVal} {K : AVal → Store → Prop} : wpResD P (.call f args) K σ = GoodD P f args σ K := propext Iff.rfl
theorem goodD_imm {f : FuncId} {args : List AVal} {r : AVal} {Q : AVal → Store → Prop} (hp : PGood P f args r) (h : args.all (immA 4) = true) (hQ : Q r σ) : GoodD P f args σ Q := by
  obtain ⟨h1, h2⟩ := imm_snapL (σ := σ) h
  exact ⟨4, _, r, h1, hp, .inl (fun id hid => by rw [h2] at hid; cases hid), hQ⟩
attribute [go_sem] Store.set_set
theorem wrap0 : IntKind.i64.wrap 0 = 0 := rfl

/-! ### Loops -/
def Back (I : Nat → Fr → Store → Prop) (m : Nat) (fr : Fr) (σ : Store) : Prop := ∃ m' fr0 σ0, m' < m ∧ Weak fr σ fr0 σ0 ∧ I m' fr0 σ0
def Kloop (I : Nat → Fr → Store → Prop) (m : Nat) (K : AExit → Fr → Store → Prop) : AExit → Fr → Store → Prop := fun e fr' σ' => match e with | .normal => Back I m fr' σ' | e => K e fr' σ'
@[go_sem ↓] theorem Kloop_n {I : Nat → Fr → Store → Prop} {m : Nat} : Kloop I m K .normal fr σ = Back I m fr σ := propext Iff.rfl
@[go_sem ↓] theorem Kloop_r {I : Nat → Fr → Store → Prop} {m : Nat} : Kloop I m K .ret fr σ = K .ret fr σ := propext Iff.rfl
@[go_sem ↓] theorem Kloop_e {I : Nat → Fr → Store → Prop} {m i : Nat} : Kloop I m K (.exit i) fr σ = K (.exit i) fr σ := propext Iff.rfl
theorem loop_rule {b : ACode} (I : Nat → Fr → Store → Prop) (m : Nat) (h0 : I m fr σ) (hr : ∀ m fr σ, I m fr σ → wp P b (Kloop I m K) fr σ) : wp P (.loop b) K fr σ := ⟨I, ⟨m, fr, σ, Weak.of_le (Fr.le_refl fr), h0⟩, hr⟩
theorem back_of {I : Nat → Fr → Store → Prop} {m : Nat} (m' : Nat) (hm : m' < m) (h : I m' fr σ) : Back I m fr σ := ⟨m', fr, σ, hm, Weak.of_le (Fr.le_refl fr), h⟩
theorem back_weak {I : Nat → Fr → Store → Prop} {m : Nat} (m' : Nat) (hm : m' < m) (fr0 : Fr) (σ0 : Store) (hw : Weak fr σ fr0 σ0) (h : I m' fr0 σ0) : Back I m fr σ := ⟨m', fr0, σ0, hm, hw, h⟩

theorem Fr.le_of {fr0 fr : Fr} (h : ∀ p ∈ fr0, Fr.get fr p.1 = p.2) : Fr.le fr0 fr := fun s => by
  induction fr0 with
  | nil => exact .inl rfl
  | cons q r ih =>
    obtain ⟨i, v⟩ := q
    simp only [Fr.get]
    split
    · rename_i e; subst e; exact .inr (h (i, v) (by simp)).symm
    · exact ih fun p hp => h p (by simp [hp])
theorem back_le {I : Nat → Fr → Store → Prop} {m : Nat} (m' : Nat) (hm : m' < m) (fr0 : Fr) (hf : ∀ p ∈ fr0, Fr.get fr p.1 = p.2) (h : I m' fr0 σ) : Back I m fr σ := ⟨m', fr0, σ, hm, Weak.of_le (Fr.le_of hf), h⟩

/-! ### A slice that is made by 'append' -/
def Alive (σ : Store) (l : List Nat) : Prop := ∀ j ∈ l, (σ.get j).isSome = true
theorem alive_nil : Alive σ [] := fun _ h => by cases h
theorem alive_cons {j : Nat} {l : List Nat} {o : Obj} (h : σ.get j = some o) (hl : Alive σ l) : Alive σ (j :: l) := fun k hk => by
  rcases List.mem_cons.1 hk with e | e
  · rw [e, h]; rfl
  · exact hl k e
theorem Alive.set {l : List Nat} (h : Alive σ l) (id : Nat) (o : Obj) : Alive (σ.set id o) l := fun k hk => by
  rw [Store.get_set]
  split
  · rfl
  · exact h k hk
theorem Alive.fresh {l : List Nat} (h : Alive σ l) (id : Nat) (o : Obj) : Alive (σ.set id o) (id :: l) := fun k hk => by
  rcases List.mem_cons.1 hk with e | e
  · rw [e]; simp
  · exact h.set id o k e
theorem Alive.not {l : List Nat} (h : Alive σ l) {id : Nat} (hid : σ.get id = none) : id ∉ l := fun hm => by
  have := h id hm; rw [hid] at this; cases this

/-- v: a slice of one's own, of these rows; none of these objects is its. -/
def Acc (σ : Store) (sz : Nat) (v : AVal) (rows : List (List AVal)) (others : List Nat) : Prop :=
  Alive σ others ∧ ((v = .nils ∧ rows = []) ∨ ∃ id ver off xs, v = .sl id ver off rows.length sz ∧ rowAt σ id ver = some (false, sz, xs) ∧ id ∉ others ∧ off + rows.length ≤ xs.length ∧ (xs.drop off).take rows.length = rows)

theorem acc_nils {sz : Nat} {others : List Nat} (h : Alive σ others) : Acc σ sz .nils [] others := ⟨h, .inl ⟨rfl, rfl⟩⟩
theorem acc_new {sz id : Nat} {rows : List (List AVal)} {others : List Nat} (h : Alive σ others) (hid : σ.get id = none) : Acc (σ.set id (.row 0 false sz rows)) sz (.sl id 0 0 rows.length sz) rows others :=
  ⟨h.set _ _, .inr ⟨id, 0, 0, rows, rfl, rowAt_self, h.not hid, by omega, by simp⟩⟩
/-- A new object is another one. -/
theorem Acc.fresh {sz : Nat} {v : AVal} {rows : List (List AVal)} {others : List Nat} (h : Acc σ sz v rows others) {id : Nat} (hid : σ.get id = none) (o : Obj) : Acc (σ.set id o) sz v rows (id :: others) := by
  refine ⟨h.1.fresh id o, ?_⟩
  rcases h.2 with h | ⟨i, ver, off, xs, h1, h2, h3, h4⟩
  · exact .inl h
  · refine .inr ⟨i, ver, off, xs, h1, by rw [rowAt_fresh hid (by rw [h2]; rfl)]; exact h2, ?_, h4⟩
    intro hm
    rcases List.mem_cons.1 hm with e | e
    · subst e
      simp [rowAt, hid] at h2
    · exact h3 e
theorem Acc.less {sz : Nat} {v : AVal} {rows : List (List AVal)} {others o2 : List Nat} (h : Acc σ sz v rows others) (hs : ∀ x ∈ o2, x ∈ others) : Acc σ sz v rows o2 := by
  refine ⟨fun j hj => h.1 j (hs j hj), ?_⟩
  rcases h.2 with h | ⟨i, ver, off, xs, h1, h2, h3, h4⟩
  · exact .inl h
  · exact .inr ⟨i, ver, off, xs, h1, h2, fun hm => h3 (hs _ hm), h4⟩
/-- Another object is written. -/
theorem Acc.other {sz : Nat} {v : AVal} {rows : List (List AVal)} {others : List Nat} (h : Acc σ sz v rows others) {id : Nat} (hid : id ∈ others) (o : Obj) : Acc (σ.set id o) sz v rows others := by
  refine ⟨h.1.set id o, ?_⟩
  rcases h.2 with h | ⟨i, ver, off, xs, h1, h2, h3, h4⟩
  · exact .inl h
  · exact .inr ⟨i, ver, off, xs, h1, by rw [rowAt_ne (fun e : i = id => h3 (by rw [e]; exact hid))]; exact h2, h3, h4⟩
theorem Acc.len {sz : Nat} {v : AVal} {rows : List (List AVal)} {others : List Nat} (h : Acc σ sz v rows others) : lenA σ v = .val (.sc (.int .i64 rows.length)) σ := by
  rcases h.2 with ⟨rfl, rfl⟩ | ⟨i, ver, off, xs, rfl, h2, h3, h4⟩
  · rfl
  · rfl
theorem Acc.known {sz : Nat} {v : AVal} {rows : List (List AVal)} {others : List Nat} (h : Acc σ sz v rows others) : known v = some [v] := by
  rcases h.2 with ⟨rfl, rfl⟩ | ⟨i, ver, off, xs, rfl, h2, h3, h4⟩
  · rfl
  · rfl
/-- Where there are rows, there is an object. -/
theorem Acc.pos {sz : Nat} {v : AVal} {rows : List (List AVal)} {others : List Nat} (h : Acc σ sz v rows others) (hp : 0 < rows.length) :
    ∃ id ver off xs, v = .sl id ver off rows.length sz ∧ rowAt σ id ver = some (false, sz, xs) ∧ id ∉ others ∧ off + rows.length ≤ xs.length ∧ (∀ i, i < rows.length → xs[off + i]? = rows[i]?) ∧
      (∀ i r, i < rows.length → Acc (σ.set id (.row ver false sz (xs.set (off + i) r))) sz (.sl id ver off rows.length sz) (rows.set i r) others ∧ ∀ j ∈ others, (σ.set id (.row ver false sz (xs.set (off + i) r))).get j = σ.get j) := by
  rcases h.2 with ⟨rfl, rfl⟩ | ⟨id, ver, off, xs, h1, h2, h3, h4, h5⟩
  · simp at hp
  · refine ⟨id, ver, off, xs, h1, h2, h3, h4, fun i hi => ?_, fun i r hi => ⟨⟨h.1.set _ _, .inr ⟨id, ver, off, xs.set (off + i) r, by simp, rowAt_self, h3, by simpa using h4, ?_⟩⟩, fun j hj => Store.get_set_ne _ _ fun e => h3 (e ▸ hj)⟩⟩
    · have e : rows[i]? = ((xs.drop off).take rows.length)[i]? := by rw [h5]
      rw [e, List.getElem?_take, List.getElem?_drop, if_pos hi]
    · rw [List.length_set, List.drop_set, if_neg (by omega), List.take_set, h5]
      congr 1
      omega
/-- A part of it. -/
theorem Acc.part {sz : Nat} {v : AVal} {rows : List (List AVal)} {others : List Nat} (h : Acc σ sz v rows others) {id ver off len l k : Nat} (hv : v = .sl id ver off len sz) (hl : l ≤ k) (hk : k ≤ rows.length) :
    Acc σ sz (.sl id ver (off + l) (k - l) sz) ((rows.drop l).take (k - l)) others := by
  rcases h.2 with ⟨rfl, rfl⟩ | ⟨id', ver', off', xs, h1, h2, h3, h4, h5⟩
  · cases hv
  · rw [h1] at hv
    injection hv with e1 e2 e3 e4
    subst e1 e2 e3 e4
    have hlen : ((rows.drop l).take (k - l)).length = k - l := by simp; omega
    refine ⟨h.1, .inr ⟨id', ver', off' + l, xs, by rw [hlen], h2, h3, by rw [hlen]; omega, ?_⟩⟩
    rw [hlen]
    conv => rhs; rw [← h5]
    rw [List.drop_take, List.take_take, List.drop_drop, Nat.min_eq_left (by omega)]

/-- A slice of one's own, its object and all. -/
structure AccAt (σ : Store) (sz id ver off : Nat) (xs rows : List (List AVal)) (others : List Nat) : Prop where
  alive : Alive σ others
  row : rowAt σ id ver = some (false, sz, xs)
  not : id ∉ others
  le : off + rows.length ≤ xs.length
  eq : (xs.drop off).take rows.length = rows
theorem Acc.at {sz : Nat} {v : AVal} {rows : List (List AVal)} {others : List Nat} (h : Acc σ sz v rows others) (hp : 0 < rows.length) : ∃ id ver off xs, v = .sl id ver off rows.length sz ∧ AccAt σ sz id ver off xs rows others := by
  rcases h.2 with ⟨rfl, rfl⟩ | ⟨id, ver, off, xs, h1, h2, h3, h4, h5⟩
  · simp at hp
  · exact ⟨id, ver, off, xs, h1, h.1, h2, h3, h4, h5⟩
section
variable {sz id ver off : Nat} {xs rows : List (List AVal)} {others : List Nat}
theorem AccAt.acc (h : AccAt σ sz id ver off xs rows others) : Acc σ sz (.sl id ver off rows.length sz) rows others := ⟨h.alive, .inr ⟨id, ver, off, xs, rfl, h.row, h.not, h.le, h.eq⟩⟩
theorem AccAt.get (h : AccAt σ sz id ver off xs rows others) {i : Nat} {r : List AVal} (hr : rows[i]? = some r) : xs[off + i]? = some r := by
  have hi : i < rows.length := (List.getElem?_eq_some_iff.1 hr).1
  have e : rows[i]? = ((xs.drop off).take rows.length)[i]? := by rw [h.eq]
  rw [e, List.getElem?_take, List.getElem?_drop, if_pos hi] at hr
  exact hr
theorem AccAt.write (h : AccAt σ sz id ver off xs rows others) (i : Nat) (r : List AVal) (hi : i < rows.length) : AccAt (σ.set id (.row ver false sz (xs.set (off + i) r))) sz id ver off (xs.set (off + i) r) (rows.set i r) others := by
  refine ⟨h.alive.set _ _, rowAt_self, h.not, by simpa using h.le, ?_⟩
  rw [List.length_set, List.drop_set, if_neg (by omega), List.take_set, h.eq]
  congr 1
  omega
theorem AccAt.fresh (h : AccAt σ sz id ver off xs rows others) {j : Nat} (hj : σ.get j = none) (o : Obj) : AccAt (σ.set j o) sz id ver off xs rows (j :: others) := by
  refine ⟨h.alive.fresh j o, by rw [rowAt_fresh hj (by rw [h.row]; rfl)]; exact h.row, ?_, h.le, h.eq⟩
  intro hm
  rcases List.mem_cons.1 hm with e | e
  · subst e
    have := h.row
    simp [rowAt, hj] at this
  · exact h.not e
theorem AccAt.less {o2 : List Nat} (h : AccAt σ sz id ver off xs rows others) (hs : ∀ x ∈ o2, x ∈ others) : AccAt σ sz id ver off xs rows o2 := ⟨fun j hj => h.alive j (hs j hj), h.row, fun hm => h.not (hs _ hm), h.le, h.eq⟩
theorem AccAt.other (h : AccAt σ sz id ver off xs rows others) {j : Nat} (hj : j ∈ others) (o : Obj) : AccAt (σ.set j o) sz id ver off xs rows others :=
  ⟨h.alive.set j o, by rw [rowAt_ne (fun e : id = j => h.not (by rw [e]; exact hj))]; exact h.row, h.not, h.le, h.eq⟩
theorem AccAt.ne (h : AccAt σ sz id ver off xs rows others) {j : Nat} (hj : j ∈ others) : j ≠ id := fun e => h.not (e ▸ hj)
end

theorem acc_append {sz bytes : Nat} {v : AVal} {rows ys : List (List AVal)} {others : List Nat} {K : AVal → Store → Prop} (h : Acc σ sz v rows others) (hl : (rows.length + ys.length) * bytes ≤ 140737488355328) (hl' : rows.length + ys.length ≤ 9223372036854775807)
    (hK : ∀ v' σ', Acc σ' sz v' (rows ++ ys) others → (∀ j ∈ others, σ'.get j = σ.get j) → K v' σ') : wpRes P (appendA σ sz bytes v ys) K σ := by
  obtain ⟨h0, h⟩ := h
  rcases h with ⟨rfl, rfl⟩ | ⟨i, ver, off, xs, rfl, h2, h3, h4, h5⟩
  · unfold appendA
    simp only
    by_cases hy : ys = []
    · rw [if_pos hy, wpRes_val]
      subst hy
      exact hK _ _ ⟨h0, .inl ⟨rfl, rfl⟩⟩ (fun _ _ => rfl)
    · simp only [List.length_nil, Nat.zero_add] at hl hl'
      rw [if_neg hy, if_pos ⟨hl, hl'⟩]
      intro id hid
      refine hK _ _ (acc_new h0 hid) (fun j hj => Store.get_set_ne _ _ fun e => ?_)
      have := h0 j hj; rw [e, hid] at this; cases this
  · unfold appendA
    simp only [h2]
    rw [if_pos ⟨trivial, trivial, trivial, h4, hl, hl'⟩, wpRes_val]
    refine hK _ _ ⟨h0.set _ _, .inr ⟨i, ver + 1, 0, rows ++ ys, by rw [List.length_append], ?_, h3, by omega, by rw [List.drop_zero, List.take_length]⟩⟩ (fun j hj => Store.get_set_ne _ _ fun e => h3 (e ▸ hj))
    rw [rowAt_self, h5]

theorem acc_out {v : AVal} {rows : List (List AVal)} {sz : Nat} {others : List Nat} (h : Acc σ sz v rows others) (hs : ∀ y ∈ rows, ∀ c ∈ y, ∃ v, c = .sc v) : Out (m + 2) σ v (.lst rows) := by
  rcases h.2 with ⟨rfl, rfl⟩ | ⟨i, ver, off, xs, rfl, h2, h3, h4, h5⟩
  · exact out_nils
  · exact out_sl h2 h4 h5 hs

/-! ### Calls of pure functions, with what is one's own -/
theorem sub_iptr {xs ys : List AVal} {o : Nat} (hl : xs.length = ys.length) (h : ∀ (i : Nat) x y, xs[i]? = some x → ys[i]? = some y → Sub x y) : Sub (.iptr xs o) (.iptr ys o) := fun Im w v hr => by
  cases hr with
  | iptr _ _ b base f him hc hr =>
    have key : ∀ (j : Nat) y, ys[j]? = some y → ∃ x, xs[j]? = some x := fun j y hy => by
      have hj : j < xs.length := by rw [hl]; exact (List.getElem?_eq_some_iff.1 hy).1
      exact ⟨_, List.getElem?_eq_getElem hj⟩
    exact .iptr ys o b base f him (fun j y hy => by obtain ⟨x, hx⟩ := key j y hy; exact hc j x hx) (fun j y hy => by obtain ⟨x, hx⟩ := key j y hy; exact h j x y hx hy Im w _ (hr j x hx))
theorem out_ptr1 {id ver i o : Nat} {fz : Bool} {sz : Nat} {xs : List (List AVal)} {v x : AVal} (h : rowAt σ id ver = some (fz, sz, xs)) (hi : xs[i]? = some [v]) (hv : Out m σ v x) : Out (m + 1) σ (.ptr id ver i o) (.iptr [x] o) := by
  obtain ⟨y, h1, h2⟩ := hv
  refine ⟨.iptr [y] o, ?_, sub_iptr rfl fun i x y hx hy => ?_⟩
  · unfold snap
    simp [h, hi, mapO, h1]
  · cases i with
    | zero => simp at hx hy; subst hx hy; exact h2
    | succ i => simp at hx
theorem out_imm {v : AVal} {n : Nat} (h : immA n v = true) : Out n σ v v := ⟨v, (imm_snap n v h).1, Sub.refl _⟩
def OutL (m : Nat) (σ : Store) : List AVal → List AVal → Prop
  | [], [] => True
  | a :: r, x :: q => Out m σ a x ∧ OutL m σ r q
  | _, _ => False
theorem outL1 {a x : AVal} (h : Out m σ a x) : OutL m σ [a] [x] := ⟨h, trivial⟩
theorem outL2 {a b x y : AVal} (h : Out m σ a x) (h2 : Out m σ b y) : OutL m σ [a, b] [x, y] := ⟨h, h2, trivial⟩
theorem outL3 {a b c x y z : AVal} (h : Out m σ a x) (h2 : Out m σ b y) (h3 : Out m σ c z) : OutL m σ [a, b, c] [x, y, z] := ⟨h, h2, h3, trivial⟩
theorem outL4 {a b c d x y z u : AVal} (h : Out m σ a x) (h2 : Out m σ b y) (h3 : Out m σ c z) (h4 : Out m σ d u) : OutL m σ [a, b, c, d] [x, y, z, u] := ⟨h, h2, h3, h4, trivial⟩
theorem outL_spec : ∀ {args xs : List AVal}, OutL m σ args xs → ∃ ys, snapL m σ args = some ys ∧ ys.length = xs.length ∧ ∀ (i : Nat) y x, ys[i]? = some y → xs[i]? = some x → Sub y x
  | [], [], _ => ⟨[], rfl, rfl, fun i y x h => by simp at h⟩
  | a :: r, x :: q, h => by
    obtain ⟨⟨y, h1, h2⟩, h3⟩ := h
    obtain ⟨ys, k1, k2, k3⟩ := outL_spec h3
    unfold snapL at k1
    refine ⟨y :: ys, by simp [snapL, mapO, h1, k1], by simp [k2], fun i u v hu hv => ?_⟩
    cases i with
    | zero => simp at hu hv; subst hu hv; exact h2
    | succ i => exact k3 i u v (by simpa using hu) (by simpa using hv)
  | [], _ :: _, h => h.elim
  | _ :: _, [], h => h.elim
theorem PGood.sub {f : FuncId} {xs ys : List AVal} {r : AVal} (h : PGood P f xs r) (hl : ys.length = xs.length) (hs : ∀ (i : Nat) y x, ys[i]? = some y → xs[i]? = some x → Sub y x) : PGood P f ys r :=
  ⟨h.1, fun Im w cargs him hr => h.2 Im w cargs him ⟨by rw [hr.1, hl], fun i x v hx hv => by
    have hi : i < ys.length := by rw [hl]; exact (List.getElem?_eq_some_iff.1 hx).1
    exact hs i _ x (List.getElem?_eq_getElem hi) hx Im w v (hr.2 i _ v (List.getElem?_eq_getElem hi) hv)⟩⟩
theorem PGood.out {f : FuncId} {xs : List AVal} {r r' : AVal} (h : PGood P f xs r) (hs : Sub r r') : PGood P f xs r' :=
  ⟨h.1, fun Im w cargs him hr => (h.2 Im w cargs him hr).mono fun e w' ⟨v, Im', h1, h2, h3, h4, h5, h6⟩ => ⟨v, Im', h1, h2, h3, h4, hs _ _ _ h5, h6⟩⟩
theorem good_out {f : FuncId} {args xs : List AVal} {r : AVal} {Q : AVal → Store → Prop} (m : Nat) (h : OutL m σ args xs) (hp : PGood P f xs r) (hf : flatA r = true) (hQ : Q r σ) : Good P f args σ Q := by
  obtain ⟨ys, h1, h2, h3⟩ := outL_spec h
  exact good_of_pgood m h1 (hp.sub h2 h3) (by unfold after; rw [if_pos hf]; exact hQ)
theorem goodD_out {f : FuncId} {args xs : List AVal} {r : AVal} {Q : AVal → Store → Prop} (m : Nat) (h : OutL m σ args xs) (hp : PGood P f xs r) (hf : flatA r = true) (hQ : Q r σ) : GoodD P f args σ Q := by
  obtain ⟨ys, h1, h2, h3⟩ := outL_spec h
  exact ⟨m, ys, r, h1, hp.sub h2 h3, .inr hf, hQ⟩
/-- What lies in memory is frozen first. -/
theorem Good.freeze {f : FuncId} {args : List AVal} {Q : AVal → Store → Prop} (p : Nat → Bool) (h : Good P f args σ (fun r τ => Q r (τ.freeze p))) : Good P f args σ Q :=
  ⟨h.1, fun α Im w cargs hs hr => (h.2 α Im w cargs hs hr).mono fun e w' ⟨v, r, σ', α', Im', h1, h2, h3, h4, h5⟩ => by
    obtain ⟨J, f1, f2, _⟩ := h3.freeze p
    exact ⟨v, r, _, α', J, h1, h2, f1, h4.mono (le_refl _) f2.imle (fun _ _ => rfl), h5.trans f2⟩⟩
theorem goodD_fz {f : FuncId} {args xs : List AVal} {r : AVal} {Q : AVal → Store → Prop} (m : Nat) (h : OutL m σ args xs) (hp : PGood P f xs r) (hf : ∀ id ∈ reachL m σ args, Fz σ id) (hQ : Q r σ) : GoodD P f args σ Q := by
  obtain ⟨ys, h1, h2, h3⟩ := outL_spec h
  exact ⟨m, ys, r, h1, hp.sub h2 h3, .inl hf, hQ⟩
end
attribute [go_sem] Option.isSome_some if_true if_false decide_true decide_false Nat.zero_add Nat.add_zero Nat.zero_mul Nat.sub_zero Int.toNat_natCast true_and and_true false_and and_false ne_eq not_false_eq_true not_true_eq_false beq_self_eq_true Bool.false_eq_true Nat.le_refl Nat.zero_le
end Go.Ab

/- Two slices of one's own that grow, side by side. -/
set_option linter.unusedVariables false
set_option linter.unusedSimpArgs false
namespace Go.Ab
section
variable {σ σ' : Store} {m : Nat}
def objs : AVal → List Nat
  | .sl id _ _ _ _ => [id]
  | _ => []
/-- Two slices in two objects. -/
def Two (σ : Store) (s1 : Nat) (v1 : AVal) (r1 : List (List AVal)) (s2 : Nat) (v2 : AVal) (r2 : List (List AVal)) (others : List Nat) : Prop :=
  Acc σ s1 v1 r1 (objs v2 ++ others) ∧ Acc σ s2 v2 r2 (objs v1 ++ others)
theorem Acc.objs_alive {sz : Nat} {v : AVal} {rows : List (List AVal)} {others : List Nat} (h : Acc σ sz v rows others) : Alive σ (objs v) := by
  rcases h.2 with ⟨rfl, _⟩ | ⟨id, ver, off, xs, rfl, h2, _⟩
  · exact fun j hj => by cases hj
  · intro j hj
    have e : j = id := by simpa [objs] using hj
    subst e
    unfold rowAt at h2
    cases hg : σ.get j with
    | none => rw [hg] at h2; cases h2
    | some o => rfl
theorem Acc.objs_not {sz : Nat} {v : AVal} {rows : List (List AVal)} {others : List Nat} (h : Acc σ sz v rows others) : ∀ j ∈ objs v, j ∉ others := by
  rcases h.2 with ⟨rfl, _⟩ | ⟨id, ver, off, xs, rfl, h2, h3, _⟩
  · intro j hj; cases hj
  · intro j hj
    have e : j = id := by simpa [objs] using hj
    rw [e]; exact h3
/-- The store is another one, but not there. -/
theorem Acc.keep {sz : Nat} {v : AVal} {rows : List (List AVal)} {others o2 : List Nat} (h : Acc σ sz v rows others) (hv : ∀ j ∈ objs v, σ'.get j = σ.get j) (ha : Alive σ' o2) (hn : ∀ j ∈ objs v, j ∉ o2) : Acc σ' sz v rows o2 := by
  refine ⟨ha, ?_⟩
  rcases h.2 with h | ⟨id, ver, off, xs, rfl, h2, h3, h4⟩
  · exact .inl h
  · refine .inr ⟨id, ver, off, xs, rfl, ?_, hn id (by simp [objs]), h4⟩
    unfold rowAt at h2 ⊢
    rw [hv id (by simp [objs])]
    exact h2
theorem Alive.app {l k : List Nat} (h : Alive σ l) (h' : Alive σ k) : Alive σ (l ++ k) := fun j hj => by
  rcases List.mem_append.1 hj with hj | hj
  · exact h j hj
  · exact h' j hj
theorem Alive.left {l k : List Nat} (h : Alive σ (l ++ k)) : Alive σ l := fun j hj => h j (List.mem_append_left _ hj)
theorem Alive.right {l k : List Nat} (h : Alive σ (l ++ k)) : Alive σ k := fun j hj => h j (List.mem_append_right _ hj)
/-- The first has grown. -/
theorem Two.first {s1 s2 : Nat} {v1 v2 v1' : AVal} {r1 r2 r1' : List (List AVal)} {others : List Nat} (h : Two σ s1 v1 r1 s2 v2 r2 others) (h1 : Acc σ' s1 v1' r1' (objs v2 ++ others)) (hk : ∀ j ∈ objs v2 ++ others, σ'.get j = σ.get j) :
    Two σ' s1 v1' r1' s2 v2 r2 others := by
  refine ⟨h1, h.2.keep (fun j hj => hk j (List.mem_append_left _ hj)) (h1.objs_alive.app h1.1.right) fun j hj hm => ?_⟩
  rcases List.mem_append.1 hm with hm | hm
  · exact h1.objs_not j hm (List.mem_append_left _ hj)
  · exact h.2.objs_not j hj (List.mem_append_right _ hm)
theorem Two.swap {s1 s2 : Nat} {v1 v2 : AVal} {r1 r2 : List (List AVal)} {others : List Nat} (h : Two σ s1 v1 r1 s2 v2 r2 others) : Two σ s2 v2 r2 s1 v1 r1 others := ⟨h.2, h.1⟩
theorem Two.fresh {s1 s2 : Nat} {v1 v2 : AVal} {r1 r2 : List (List AVal)} {others : List Nat} (h : Two σ s1 v1 r1 s2 v2 r2 others) {id : Nat} (hid : σ.get id = none) (o : Obj) : Two (σ.set id o) s1 v1 r1 s2 v2 r2 (id :: others) := by
  refine ⟨(h.1.fresh hid o).less fun x hx => ?_, (h.2.fresh hid o).less fun x hx => ?_⟩ <;>
  · simp only [List.mem_append, List.mem_cons] at hx ⊢
    rcases hx with hx | hx | hx
    · exact .inr (.inl hx)
    · exact .inl hx
    · exact .inr (.inr hx)
theorem Two.less {s1 s2 : Nat} {v1 v2 : AVal} {r1 r2 : List (List AVal)} {others o2 : List Nat} (h : Two σ s1 v1 r1 s2 v2 r2 others) (hs : ∀ x ∈ o2, x ∈ others) : Two σ s1 v1 r1 s2 v2 r2 o2 := by
  refine ⟨h.1.less fun x hx => ?_, h.2.less fun x hx => ?_⟩ <;>
  · simp only [List.mem_append] at hx ⊢
    exact hx.imp id (hs x)
theorem Two.other {s1 s2 : Nat} {v1 v2 : AVal} {r1 r2 : List (List AVal)} {others : List Nat} (h : Two σ s1 v1 r1 s2 v2 r2 others) {id : Nat} (hid : id ∈ others) (o : Obj) : Two (σ.set id o) s1 v1 r1 s2 v2 r2 others :=
  ⟨h.1.other (List.mem_append_right _ hid) o, h.2.other (List.mem_append_right _ hid) o⟩

/-- A row of what lies in no memory of one's own. -/
theorem snap_row_imm (n : Nat) (σ : Store) : ∀ cs : List AVal, (∀ c ∈ cs, immA n c = true) → mapO (snap n σ) cs = some cs := fun cs h => mapO_id fun c hc => (imm_snap n c (h c hc)).1
theorem out_sl_imm {id ver off len sz : Nat} {fz : Bool} {xs ys : List (List AVal)} (h : rowAt σ id ver = some (fz, sz, xs)) (hl : off + len ≤ xs.length) (hy : (xs.drop off).take len = ys) (hs : ∀ y ∈ ys, ∀ c ∈ y, immA (m + 1) c = true) :
    Out (m + 2) σ (.sl id ver off len sz) (.lst ys) := by
  refine ⟨.lst ys, ?_, Sub.refl _⟩
  have e : mapO (mapO (snap (m + 1) σ)) ys = some ys := mapO_id fun y hy' => snap_row_imm _ σ y (hs y hy')
  unfold snap
  simp only [h, hl, and_self, if_true, hy, e, Option.map_some]
theorem out_agg3 {a b c d e f : AVal} (h1 : Out m σ a d) (h2 : Out m σ b e) (h3 : Out m σ c f) : Out (m + 1) σ (.agg [a, b, c]) (.agg [d, e, f]) := by
  obtain ⟨y, h1, h1'⟩ := h1
  obtain ⟨z, h2, h2'⟩ := h2
  obtain ⟨u, h3, h3'⟩ := h3
  refine ⟨.agg [y, z, u], by simp [snap, mapO, h1, h2, h3], sub_agg rfl fun i x y hx hy => ?_⟩
  match i with
  | 0 => simp at hx hy; subst hx hy; exact h1'
  | 1 => simp at hx hy; subst hx hy; exact h2'
  | 2 => simp at hx hy; subst hx hy; exact h3'
  | i + 3 => simp at hx
end
end Go.Ab

/- From the readings of a row's arguments to abstract values. -/
set_option linter.unusedVariables false
set_option linter.unusedSimpArgs false
namespace Go.Ab

/-- What a cell holds: a slice of rows, too. -/
inductive CT where
  | int (k : IntKind)
  | bool
  | str
  | slice (row : List CT)

inductive HasC : CT → AVal → Prop
  | int (k : IntKind) (n : Int) (h : (Lit.int k n).wf = true) : HasC (.int k) (.sc (.int k n))
  | bool (b : Bool) : HasC .bool (.sc (.bool b))
  | str (s : ByteArray) (h : s.size ≤ maxLen) : HasC .str (.sc (.string s))
  | lst (row : List CT) (xs : List (List AVal)) (hl : xs.length ≤ maxLen) (h : ∀ r ∈ xs, r.length = row.length) (h2 : ∀ r ∈ xs, ∀ (i : Nat) c v, row[i]? = some c → r[i]? = some v → HasC c v) : HasC (.slice row) (.lst xs)

def rowFields (rw_ : TypeId → Option (List CT)) (cz : TypeId → Nat) : List Field → Nat → Option (List CT)
  | [], _ => some []
  | f :: r, n => match rw_ f.type with
    | some a => if f.offset = n ∧ cz f.type = a.length then (match rowFields rw_ cz r (n + a.length) with
      | some q => some (a ++ q)
      | none => none) else none
    | none => none
def rowOf (P : Program) : Nat → TypeId → Option (List CT)
  | 0, _ => none
  | d + 1, t => match P.underlying t with
    | some (.int k) => some [.int k]
    | some .bool => some [.bool]
    | some .string => some [.str]
    | some (.slice e) => match rowOf P d e with
      | some r => if P.cellsOf e = r.length ∧ 0 < r.length then some [.slice r] else none
      | none => none
    | some (.struct fs) => match rowFields (rowOf P d) P.cellsOf fs.toList 0 with
      | some r => if P.cellsOf t = r.length then some r else none
      | none => none
    | _ => none

section
variable {H : Type} {enc : TypeId × Value → H} {P : Program} {w : World} {base : Nat} {spare : Nat → Bool} {held : Bool} {Im : Nat → Prop}

def RowRel (Im : Nat → Prop) (w : World) (row : List CT) (xs : List AVal) (cs : List Value) : Prop :=
  xs.length = row.length ∧ cs.length = row.length ∧ ∀ (i : Nat) c v u, row[i]? = some c → xs[i]? = some v → cs[i]? = some u → HasC c v ∧ u.oneCell' = true ∧ Rel Asg.none Im w v u
theorem RowRel.one {c : CT} {v : AVal} {u : Value} (h1 : HasC c v) (h2 : u.oneCell' = true) (h3 : Rel Asg.none Im w v u) : RowRel Im w [c] [v] [u] := ⟨rfl, rfl, fun i c' v' u' a b d => by
  match i with
  | 0 =>
    simp at a b d
    subst a b d
    exact ⟨h1, h2, h3⟩
  | i + 1 => simp at a⟩
theorem RowRel.app {a b : List CT} {x y : List AVal} {c d : List Value} (h1 : RowRel Im w a x c) (h2 : RowRel Im w b y d) : RowRel Im w (a ++ b) (x ++ y) (c ++ d) := by
  obtain ⟨h1a, h1b, h1c⟩ := h1
  obtain ⟨h2a, h2b, h2c⟩ := h2
  refine ⟨by simp [h1a, h2a], by simp [h1b, h2b], fun i q v u p1 p2 p3 => ?_⟩
  by_cases hi : i < a.length
  · rw [List.getElem?_append_left hi] at p1
    rw [List.getElem?_append_left (by omega)] at p2 p3
    exact h1c i q v u p1 p2 p3
  · rw [List.getElem?_append_right (by omega)] at p1 p2 p3
    rw [h1a] at p2
    rw [h1b] at p3
    exact h2c _ q v u p1 p2 p3

theorem fields_rel {n : Nat} {cs : List Value} {rw_ : TypeId → Option (List CT)} (hcz : ∀ t row (c : List Value) y, rw_ t = some row → DataW.trod enc P w base spare held n t c = some y → c.length = row.length → ∃ xs, RowRel Im w row xs c) :
    ∀ (fs : List Field) (k : Nat) (row : List CT), rowFields rw_ P.cellsOf fs k = some row → cs.length = k + row.length → (∀ f ∈ fs, ∃ y, DataW.trod enc P w base spare held n f.type ((cs.drop f.offset).take (P.cellsOf f.type)) = some y) → ∃ xs, RowRel Im w row xs (cs.drop k)
  | [], k, row, h, hl, _ => by
    simp only [rowFields, Option.some.injEq] at h
    subst h
    refine ⟨[], rfl, by simp at hl ⊢; omega, fun i c v u a => by simp at a⟩
  | f :: r, k, row, h, hl, ht => by
    unfold rowFields at h
    split at h
    · rename_i a ha
      split at h
      · rename_i ho
        split at h
        · rename_i q hq
          injection h with h
          subst h
          rw [List.length_append] at hl
          obtain ⟨y, hy⟩ := ht f (by simp)
          rw [ho.1, ho.2] at hy
          obtain ⟨x1, h1⟩ := hcz f.type a _ y ha hy (by simp; omega)
          obtain ⟨x2, h2⟩ := fields_rel hcz r (k + a.length) q hq (by omega) (fun g hg => ht g (by simp [hg]))
          refine ⟨x1 ++ x2, ?_⟩
          have := h1.app h2
          rwa [show (cs.drop k).take a.length ++ cs.drop (k + a.length) = cs.drop k by rw [← List.drop_drop, List.take_append_drop]] at this
        · cases h
      · cases h
    · cases h

theorem trod_cells (hI : ∀ b, b < w.heap.size → Im b) : ∀ (d fuel : Nat) (t : TypeId) (row : List CT) (cs : List Value) (y : DataW H × List MemPlace), rowOf P d t = some row → DataW.trod enc P w base spare held fuel t cs = some y → ∃ xs, RowRel Im w row xs cs := by
  intro d
  induction d with
  | zero => intro fuel t row cs y h; cases h
  | succ d ih =>
    intro fuel t row cs y hrow ht
    unfold rowOf at hrow
    split at hrow
    · rename_i k hu
      obtain ⟨n, rfl, _, hw⟩ := DataW.trod_int hu ht
      injection hrow with hrow
      subst hrow
      exact ⟨_, RowRel.one (.int k n hw) rfl (.sc _ rfl)⟩
    · rename_i hu
      injection hrow with hrow
      subst hrow
      cases fuel with
      | zero => simp [DataW.trod] at ht
      | succ m =>
        unfold DataW.trod at ht
        rw [hu] at ht
        split at ht <;> simp_all
        exact ⟨_, RowRel.one (.bool _) rfl (.sc _ rfl)⟩
    · rename_i hu
      injection hrow with hrow
      subst hrow
      cases fuel with
      | zero => simp [DataW.trod] at ht
      | succ m =>
        unfold DataW.trod at ht
        rw [hu] at ht
        split at ht <;> simp_all
        exact ⟨_, RowRel.one (.str _ ht.1) rfl (.sc _ rfl)⟩
    · rename_i e hu
      split at hrow
      · rename_i r hr
        split at hrow
        · rename_i hk
          injection hrow with hrow
          subst hrow
          rcases DataW.trod_slice hu ht with ⟨rfl, _⟩ | ⟨a, len, cap, elems, rest, m, rfl, rfl, _, hb, hlen, hcap, hel, hrd, _⟩
          · exact ⟨[.lst []], RowRel.one (.lst r [] (by simp) (by simp) (by simp)) rfl (.lst0 none 0)⟩
          · have key : ∀ i, i < len → ∃ (ci : List Value) (xi : List AVal), w.cells? base (a.add (i * r.length)) r.length = some ci ∧ RowRel Im w r xi ci := fun i hi => by
              have h1 := hrd i hi
              rw [List.getElem?_eq_getElem (by omega), hk.1] at h1
              obtain ⟨ci, h2, h3⟩ := Option.bind_eq_some_iff.1 h1
              obtain ⟨xi, h4⟩ := ih m e r ci _ hr h3
              exact ⟨ci, xi, h2, h4⟩
            by_cases h0 : len = 0
            · subst h0
              exact ⟨[.lst []], RowRel.one (.lst r [] (by simp) (by simp) (by simp)) rfl (.lst0 _ _)⟩
            have hC : ∃ C : Nat → List Value, ∃ X : Nat → List AVal, ∀ i, i < len → w.cells? base (a.add (i * r.length)) r.length = some (C i) ∧ RowRel Im w r (X i) (C i) := by
              refine ⟨fun i => if h : i < len then (key i h).choose else [], fun i => if h : i < len then (key i h).choose_spec.choose else [], fun i hi => ?_⟩
              simp only [dif_pos hi]
              exact (key i hi).choose_spec.choose_spec
            obtain ⟨C, X, hCX⟩ := hC
            have hcell : ∀ i, i < len → ∀ j, j < r.length → w.cell? ((a.add (i * r.length)).add j) = (C i)[j]? := fun i hi j hj => by
              have h1 := (hCX i hi).1
              unfold World.cells? at h1
              split at h1
              · have h2 := mapM_some_get h1 j j (by simp [hj])
                exact h2
              · cases h1
            obtain ⟨b, off, spot⟩ := a
            have hlenC : ∀ i, i < len → (C i).length = r.length := fun i hi => (hCX i hi).2.2.1
            have hfst : w.cell? ⟨b, off, spot⟩ = (C 0)[0]? := by
              have := hcell 0 (by omega) 0 hk.2
              simpa [Addr.add] using this
            rw [List.getElem?_eq_getElem (by rw [hlenC 0 (by omega)]; exact hk.2)] at hfst
            have hspot : spot = none := World.cell?_spot hfst
            subst hspot
            have hadd : ∀ n m : Nat, ((⟨b, off, none⟩ : Addr).add n).add m = ⟨b, off + n + m, none⟩ := fun n m => by
              unfold Addr.add
              by_cases hn : n = 0 <;> by_cases hm : m = 0 <;> simp [hn, hm]
            have hblt : b < w.heap.size := by
              unfold World.cell? at hfst
              cases hg : w.heap[b]? with
              | none => simp [hg] at hfst
              | some o => exact (Array.getElem?_eq_some_iff.1 hg).1
            have hX : ∀ (i : Nat) (x : List AVal), ((List.range len).map X)[i]? = some x → i < len ∧ x = X i := fun i x hx => by
              rw [List.getElem?_map] at hx
              by_cases hi : i < len
              · rw [List.getElem?_range hi] at hx
                exact ⟨hi, (Option.some.inj hx).symm⟩
              · rw [List.getElem?_eq_none (by simp; omega)] at hx; cases hx
            have hlX : ((List.range len).map X).length = len := by simp
            refine ⟨[.lst ((List.range len).map X)], RowRel.one (.lst r _ (by rw [hlX]; omega) (fun x hx => ?_) (fun x hx i c v hc hv => ?_)) rfl ?_⟩
            · obtain ⟨i, hi⟩ := List.getElem?_of_mem hx
              obtain ⟨h1, h2⟩ := hX i x hi
              rw [h2]; exact (hCX i h1).2.1
            · obtain ⟨q, hq⟩ := List.getElem?_of_mem hx
              obtain ⟨h1, h2⟩ := hX q x hq
              subst h2
              obtain ⟨_, h4, h5⟩ := (hCX q h1).2
              have hi : i < r.length := (List.getElem?_eq_some_iff.1 hc).1
              exact (h5 i c v _ hc hv (List.getElem?_eq_getElem (by rw [h4]; exact hi))).1
            · have hrel : ∀ (i : Nat) (x : List AVal) (j : Nat) (z : AVal), ((List.range len).map X)[i]? = some x → x[j]? = some z → ∃ u, (C i)[j]? = some u ∧ w.cell? ⟨b, off + i * r.length + j, none⟩ = some u ∧ u.oneCell' = true ∧ Rel Asg.none Im w z u := fun i x j z hx hz => by
                obtain ⟨h1, h2⟩ := hX i x hx
                subst h2
                obtain ⟨h3, h4, h5⟩ := (hCX i h1).2
                have hj : j < r.length := by rw [← h3]; exact (List.getElem?_eq_some_iff.1 hz).1
                have h6 : (C i)[j]? = some ((C i)[j]'(by rw [h4]; exact hj)) := List.getElem?_eq_getElem _
                obtain ⟨_, k1, k2⟩ := h5 j _ z _ (List.getElem?_eq_getElem hj) hz h6
                refine ⟨_, h6, ?_, k1, k2⟩
                rw [← h6, ← hcell i h1 j hj, hadd]
              have := Rel.lst (α := Asg.none) (Im := Im) (w := w) ((List.range len).map X) b off r.length cap (fun i j => ((C i)[j]?).getD undef) (hI b hblt) (by rw [hlX]; exact hlen)
                (fun i x hx => by obtain ⟨h1, h2⟩ := hX i x hx; rw [h2]; exact (hCX i h1).2.1)
                (fun i x j z hx hz => by obtain ⟨u, u1, u2, u3, _⟩ := hrel i x j z hx hz; rw [u1]; exact ⟨u2, u3⟩)
                (fun i x j z hx hz => by obtain ⟨u, u1, _, _, u4⟩ := hrel i x j z hx hz; rw [u1]; exact u4)
              rwa [hlX] at this
        · cases hrow
      · cases hrow
    · rename_i fs hu
      split at hrow
      · rename_i r hr
        split at hrow
        · rename_i hk
          injection hrow with hrow
          subst hrow
          obtain ⟨xs, m, rfl, _, hl, hxl, hfd⟩ := DataW.trod_struct hu ht
          have := fields_rel (enc := enc) (P := P) (w := w) (base := base) (spare := spare) (held := held) (Im := Im) (n := m) (cs := cs) (rw_ := rowOf P d) (fun t' row' c y' h1 h2 _ => ih m t' row' c y' h1 h2) fs.toList 0 r hr (by rw [hl, hk]; omega) (fun f hf => by
            obtain ⟨i, hi⟩ := List.getElem?_of_mem hf
            have hi' : fs[i]? = some f := by simpa using hi
            have := hfd i f hi'
            have hlt : i < xs.length := by rw [hxl]; exact (Array.getElem?_eq_some_iff.1 hi').1
            rw [List.getElem?_eq_getElem hlt] at this
            exact ⟨_, this⟩)
          rwa [List.drop_zero] at this
        · cases hrow
      · cases hrow
    · cases hrow

/-- An argument. -/
theorem arg_one {v : Value} (hI : ∀ b, b < w.heap.size → Im b) {t : TypeId} {d : DataW H} {p : List MemPlace} (dep : Nat) {c : CT} (hrow : rowOf P dep t = some [c]) (h : DataW.Trod enc P w base spare held t v d p) (hv : v.cells = #[v]) : ∃ x, HasC c x ∧ Rel Asg.none Im w x v := by
  obtain ⟨fuel, hf⟩ := h
  obtain ⟨xs, h1, h2, h3⟩ := trod_cells hI dep fuel t [c] _ _ hrow hf
  match xs, h1 with
  | [x], _ =>
    obtain ⟨k1, _, k3⟩ := h3 0 c x v rfl rfl (by rw [hv]; rfl)
    exact ⟨x, k1, k3⟩
theorem arg_agg {v : Value} (hI : ∀ b, b < w.heap.size → Im b) {t : TypeId} {d : DataW H} {p : List MemPlace} (dep : Nat) {row : List CT} (hrow : rowOf P dep t = some row) (h : DataW.Trod enc P w base spare held t v d p) {cs : Array Value} (hv : v = .agg cs) :
    ∃ xs : List AVal, xs.length = row.length ∧ (∀ (i : Nat) c x, row[i]? = some c → xs[i]? = some x → HasC c x) ∧ Rel Asg.none Im w (.agg xs) v := by
  obtain ⟨fuel, hf⟩ := h
  subst hv
  obtain ⟨xs, h1, h2, h3⟩ := trod_cells hI dep fuel t row _ _ hrow hf
  simp only [Value.cells, Array.length_toList] at h2 h3
  refine ⟨xs, h1, fun i c x hc hx => ?_, .agg xs cs (by rw [h2, h1]) (fun i u hu => ?_) (fun i x u hx hu => ?_)⟩
  · have hi : i < row.length := (List.getElem?_eq_some_iff.1 hc).1
    exact (h3 i c x _ hc hx (by simp; exact Array.getElem?_eq_getElem (by omega))).1
  · have hi : i < cs.size := (Array.getElem?_eq_some_iff.1 hu).1
    exact (h3 i _ _ u (List.getElem?_eq_getElem (by omega)) (List.getElem?_eq_getElem (by omega)) (by simpa using hu)).2.1
  · have hi : i < cs.size := (Array.getElem?_eq_some_iff.1 hu).1
    exact (h3 i _ x u (List.getElem?_eq_getElem (by omega)) hx (by simpa using hu)).2.2
end
end Go.Ab

/- Nobody writes any more what is done: own memory becomes lasting memory at a loop's head. -/
set_option linter.unusedVariables false
set_option linter.unusedSimpArgs false
namespace Go.Ab
section
variable {σ τ : Store} {fr fr0 : Fr}

theorem weak_freeze (p : Nat → Bool) : Weak fr σ fr (σ.freeze p) := fun α Im w tmps hs hg => by
  obtain ⟨J, h1, h2, _⟩ := hs.freeze p
  exact ⟨J, h1, fun s => (hg s).mono (le_refl α) h2.imle (fun _ _ => rfl), h2⟩

/-- The same value, where nobody writes the memory that it leads to. -/
def Thaw (n : Nat) (τ : Store) (x y : AVal) : Prop := Out n τ x y ∧ ∀ id ∈ reach n τ x, Fz τ id
theorem Thaw.rel {n : Nat} {α : Asg} {Im : Nat → Prop} {w : World} (hs : Sim α Im τ w) {x y : AVal} {v : Value} (h : Thaw n τ x y) (hr : Rel α Im w x v) : Rel α Im w y v := by
  obtain ⟨⟨y0, hy0, hsub⟩, h2⟩ := h
  refine Rel.lift (hsub _ _ _ (snap_rel (J := Im) hs (fun _ h => h) n x v y0 hr hy0 fun id ver fz sz xs l hid hg hl => ?_))
  obtain ⟨o, ho, hf⟩ := h2 id hid
  rw [ho] at hg
  cases hg
  obtain ⟨l', arr, e, fr, k1, k2, k3, k4, k5, k6, k7, k8, k9, k10⟩ := hs.obj id _ ho
  rw [hl] at k1
  cases k1
  exact k8 hf

theorem weak_slots {n : Nat} (h : ∀ q ∈ fr0, Fr.get fr q.1 = q.2 ∨ Thaw n τ (Fr.get fr q.1) q.2) : Weak fr τ fr0 τ := fun α Im w tmps hs hg => by
  refine ⟨Im, hs, fun s => ?_, Step.refl _ _ _ _⟩
  induction fr0 with
  | nil => exact .undef _
  | cons q r ih =>
    obtain ⟨i, v⟩ := q
    simp only [Fr.get]
    split
    · rename_i e
      subst e
      rcases h (i, v) (by simp) with h1 | h1
      · have := hg i
        rw [h1] at this
        exact this
      · exact h1.rel hs (hg i)
    · exact ih fun p hp => h p (by simp [hp])

theorem weak_cells {n id ver sz : Nat} {fz : Bool} {xs xs' : List (List AVal)} (hget : τ.get id = some (.row ver fz sz xs)) (hl : xs'.length = xs.length)
    (hc : ∀ (i : Nat) x x', xs[i]? = some x → xs'[i]? = some x' → x'.length = x.length ∧ ∀ (j : Nat) y y', x[j]? = some y → x'[j]? = some y' → y' = y ∨ Thaw n τ y y') :
    Weak fr τ fr (τ.set id (.row ver fz sz xs')) := fun α Im w tmps hs hg => by
  have old := hs.obj id _ hget
  obtain ⟨l, arr, e, fr', k1, k2, k3, k4, k5, k6, k7, k8, k9, k10⟩ := old
  have new : ObjOk α Im w id (.row ver fz sz xs') := by
    refine ⟨l, arr, e, fr', k1, k2, k3, k4, by rw [hl]; exact k5, k6, fun i x' hx' => ?_, k8, k9, k10⟩
    have hi : i < xs.length := by rw [← hl]; exact (List.getElem?_eq_some_iff.1 hx').1
    have hx : xs[i]? = some xs[i] := List.getElem?_eq_getElem hi
    obtain ⟨c1, c2⟩ := hc i _ x' hx hx'
    obtain ⟨g1, g2⟩ := k7 i _ hx
    refine ⟨c1.trans g1, fun j y' hy' => ?_⟩
    have hj : j < xs[i].length := by rw [← c1]; exact (List.getElem?_eq_some_iff.1 hy').1
    have hy : xs[i][j]? = some xs[i][j] := List.getElem?_eq_getElem hj
    obtain ⟨u, u1, u2, u3⟩ := g2 j _ hy
    refine ⟨u, u1, u2, ?_⟩
    rcases c2 j _ y' hy hy' with h1 | h1
    · rw [h1]; exact u3
    · exact h1.rel hs u3
  have conv : ∀ i o, (τ.set id (.row ver fz sz xs')).get i = some o → ∃ o0, τ.get i = some o0 ∧ loc α i o0 = loc α i o ∧ o0.fz = o.fz := fun i o hi => by
    rw [Store.get_set] at hi
    split at hi
    · rename_i e; subst e
      cases hi
      exact ⟨_, hget, rfl, rfl⟩
    · exact ⟨o, hi, rfl, rfl⟩
  refine ⟨Im, ⟨fun i o hi => ?_, fun i j oi oj li lj hij hi hj h1 h2 => ?_, hs.im, hs.fin⟩, hg, ⟨le_refl α, fun _ h => h, rfl, rfl, ⟨rfl, Nat.le_refl _⟩, Nat.le_refl _, fun _ _ _ => rfl, fun b hb => ?_, fun b hb => .inl hb⟩⟩
  · rw [Store.get_set] at hi
    split at hi
    · rename_i e; subst e; cases hi; exact new
    · exact hs.obj i o hi
  · obtain ⟨o1, a1, a2, _⟩ := conv i oi hi
    obtain ⟨o2, b1, b2, _⟩ := conv j oj hj
    exact hs.inj i j o1 o2 li lj hij a1 b1 (a2.trans h1) (b2.trans h2)
  · obtain ⟨i, o, l', g1, g2, g3, rfl⟩ := hb
    obtain ⟨o0, a1, a2, a3⟩ := conv i o g1
    exact .inl ⟨i, o0, l', a1, a3.trans g2, a2.trans g3, rfl⟩

theorem rowAt_freeze {p : Nat → Bool} {id ver : Nat} {fz : Bool} {sz : Nat} {xs : List (List AVal)} (h : rowAt σ id ver = some (fz, sz, xs)) : rowAt (σ.freeze p) id ver = some (fz || p id, sz, xs) := by
  unfold rowAt at h ⊢
  rw [Store.get_freeze]
  cases hg : σ.get id with
  | none => rw [hg] at h; cases h
  | some o =>
    rw [hg] at h
    cases o with
    | row v f s y =>
      simp only at h ⊢
      split at h
      · rename_i e
        cases h
        rw [if_pos e]
      · cases h
    | mp es => cases h
theorem resD_append {P : Program} {sz b : Nat} {s : AVal} {ys : List (List AVal)} {K : AVal → Store → Prop} : wpResD P (appendA σ sz b s ys) K σ = wpRes P (appendA σ sz b s ys) K σ := by
  unfold appendA
  repeat' split
  all_goals rfl
theorem imm_reach {n : Nat} {ys : List (List AVal)} (h : ∀ y ∈ ys, ∀ c ∈ y, immA n c = true) : ys.flatMap (fun c => c.flatMap (reach n σ)) = [] :=
  List.flatMap_eq_nil_iff.2 fun y hy => List.flatMap_eq_nil_iff.2 fun c hc => (imm_snap n c (h y hy c hc)).2
/-- A slice of one's own, once nobody writes it any more. -/
theorem acc_thaw {m : Nat} {v : AVal} {rows : List (List AVal)} {sz : Nat} {others : List Nat} {p : Nat → Bool} (h : Acc σ sz v rows others) (hs : ∀ y ∈ rows, ∀ c ∈ y, immA (m + 1) c = true) (hp : ∀ id ver off len sz, v = .sl id ver off len sz → p id = true) : Thaw (m + 2) (σ.freeze p) v (.lst rows) := by
  rcases h.2 with ⟨rfl, rfl⟩ | ⟨i, ver, off, xs, rfl, h2, h3, h4, h5⟩
  · exact ⟨out_nils, fun id hid => by cases hid⟩
  · have h6 := rowAt_freeze (p := p) h2
    refine ⟨?_, fun id hid => ?_⟩
    · refine ⟨.lst rows, ?_, Sub.refl _⟩
      have e : mapO (mapO (snap (m + 1) (σ.freeze p))) rows = some rows := mapO_id fun y hy' => mapO_id fun c hc => (imm_snap (m + 1) c (hs y hy' c hc)).1
      unfold snap
      simp only [h6, h4, and_self, if_true, h5, e, Option.map_some]
    · have e : reach (m + 2) (σ.freeze p) (.sl i ver off rows.length sz) = [i] := by
        have e0 : reach (m + 2) (σ.freeze p) (.sl i ver off rows.length sz) = i :: ((xs.drop off).take rows.length).flatMap (fun c => c.flatMap (reach (m + 1) (σ.freeze p))) := by
          conv => lhs; unfold reach
          simp only [h6]
        rw [e0, h5, imm_reach hs]
      rw [e] at hid
      have e2 : id = i := by simpa using hid
      subst e2
      unfold rowAt at h6
      cases hg : (σ.freeze p).get id with
      | none => rw [hg] at h6; cases h6
      | some o =>
        rw [hg] at h6
        cases o with
        | mp es => cases h6
        | row v f s y =>
          simp only at h6
          split at h6
          · rename_i e3
            exact ⟨_, hg, by have hx := congrArg (fun t => t.1) (Option.some.inj h6); simp only at hx; simp [Obj.fz, hx, hp _ _ _ _ _ rfl]⟩
          · cases h6
theorem good_outi {P : Program} {f : FuncId} {args xs : List AVal} {r : AVal} {Q : AVal → Store → Prop} (h : OutL 4 σ args xs) (hi : args.all (immA 4) = true) (hp : PGood P f xs r) (hQ : Q r σ) : Good P f args σ Q := by
  obtain ⟨ys, h1, h2, h3⟩ := outL_spec h
  have e := (imm_snapL (σ := σ) hi).1
  rw [h1] at e
  cases e
  exact good_imm (hp.sub h2 h3) hi hQ
theorem goodD_outi {P : Program} {f : FuncId} {args xs : List AVal} {r : AVal} {Q : AVal → Store → Prop} (h : OutL 4 σ args xs) (hi : args.all (immA 4) = true) (hp : PGood P f xs r) (hQ : Q r σ) : GoodD P f args σ Q := by
  obtain ⟨ys, h1, h2, h3⟩ := outL_spec h
  have e := (imm_snapL (σ := σ) hi).1
  rw [h1] at e
  cases e
  exact goodD_imm (hp.sub h2 h3) hi hQ
theorem Two.keep {σ' : Store} {s1 s2 : Nat} {v1 v2 : AVal} {r1 r2 : List (List AVal)} {others : List Nat} (h : Two σ s1 v1 r1 s2 v2 r2 others) (hk : ∀ j ∈ objs v1 ++ (objs v2 ++ others), σ'.get j = σ.get j) : Two σ' s1 v1 r1 s2 v2 r2 others := by
  have al : ∀ l : List Nat, Alive σ l → (∀ j ∈ l, j ∈ objs v1 ++ (objs v2 ++ others)) → Alive σ' l := fun l hl hs j hj => by rw [hk j (hs j hj)]; exact hl j hj
  refine ⟨h.1.keep (fun j hj => hk j (by simp [hj])) (al _ h.1.1 fun j hj => List.mem_append_right _ hj) h.1.objs_not, h.2.keep (fun j hj => hk j (by simp [hj])) (al _ h.2.1 fun j hj => ?_) h.2.objs_not⟩
  rcases List.mem_append.1 hj with h1 | h1 <;> simp [h1]
theorem get_frz {p : Nat → Bool} {j : Nat} (h : p j = false) : (σ.freeze p).get j = σ.get j := by
  rw [Store.get_freeze]
  cases hg : σ.get j with
  | none => rfl
  | some o => cases o <;> simp [h]
theorem Alive.frz {l : List Nat} {p : Nat → Bool} (h : Alive σ l) : Alive (σ.freeze p) l := fun j hj => by
  have := h j hj
  rw [Store.get_freeze]
  cases hg : σ.get j with
  | none => rw [hg] at this; cases this
  | some o => cases o <;> rfl
theorem Acc.frz {p : Nat → Bool} {sz : Nat} {v : AVal} {rows : List (List AVal)} {others : List Nat} (h : Acc σ sz v rows others) (hp : ∀ j ∈ objs v, p j = false) : Acc (σ.freeze p) sz v rows others :=
  h.keep (fun j hj => get_frz (hp j hj)) h.1.frz h.objs_not
/-- A slice of one's own that lies in another one is done: nobody writes it any more. -/
theorem weak_put {v w : AVal} {rows R : List (List AVal)} {sz : Nat} {others : List Nat} {m : Nat} {o2 : List Nat} (hv : Acc σ sz v rows o2) (hw : Acc σ 1 w (R ++ [[v]]) (objs v ++ others)) (hs : ∀ y ∈ rows, ∀ c ∈ y, immA (m + 1) c = true) :
    ∃ σ0, Weak fr σ fr σ0 ∧ Acc σ0 1 w (R ++ [[.lst rows]]) (objs v ++ others) ∧ ∀ j, j ∉ objs v → j ∉ objs w → σ0.get j = σ.get j := by
  obtain ⟨id, ver, off, xs, rfl, ha⟩ := hw.at (by simp)
  have hnv : ∀ j ∈ objs v, j ≠ id := fun j hj => ha.ne (List.mem_append_left _ hj)
  let p : Nat → Bool := fun j => (objs v).contains j
  have hp : ∀ j, j ∉ objs v → p j = false := fun j hj => by simpa [p] using hj
  have hid : id ∉ objs v := fun hm => hnv id hm rfl
  have hg : (σ.freeze p).get id = σ.get id := get_frz (hp id hid)
  have ha2 : AccAt (σ.freeze p) 1 id ver off xs (R ++ [[v]]) (objs v ++ others) := ⟨ha.alive.frz, by have := rowAt_freeze (p := p) ha.row; rwa [hp id hid] at this, ha.not, ha.le, ha.eq⟩
  have hi : R.length < (R ++ [[v]]).length := by simp
  have hw2 := ha2.write R.length [.lst rows] hi
  have e1 : (R ++ [[v]]).set R.length [.lst rows] = R ++ [[.lst rows]] := by simp
  rw [e1] at hw2
  have hgs : (σ.freeze p).get id = some (.row ver false 1 xs) := by
    have := ha2.row
    unfold rowAt at this
    cases hgg : (σ.freeze p).get id with
    | none => rw [hgg] at this; cases this
    | some o =>
      rw [hgg] at this
      cases o with
      | mp es => cases this
      | row v' f s y =>
        simp only at this
        split at this
        · rename_i e
          simp only [Option.some.injEq, Prod.mk.injEq] at this
          obtain ⟨rfl, rfl, rfl⟩ := this
          rw [e]
        · cases this
  have ht : Thaw (m + 2) (σ.freeze p) v (.lst rows) := acc_thaw hv hs fun id ver off len sz e => by simp [p, e, objs]
  have hx : xs[off + R.length]? = some [v] := ha2.get (i := R.length) (by simp)
  refine ⟨_, (weak_freeze p).trans (weak_cells (n := m + 2) hgs (xs' := xs.set (off + R.length) [.lst rows]) (by simp) fun i x x' h1 h2 => ?_), ?_, fun j h1 h2 => ?_⟩
  · rw [List.getElem?_set] at h2
    split at h2
    · rename_i e
      subst e
      rw [hx] at h1
      cases h1
      split at h2
      · cases h2
        refine ⟨rfl, fun j y y' h3 h4 => .inr ?_⟩
        cases j with
        | zero => simp at h3 h4; subst h3 h4; exact ht
        | succ j => simp at h3
      · cases h2
    · rw [h1] at h2
      cases h2
      exact ⟨rfl, fun j y y' h3 h4 => .inl (by rw [h3] at h4; exact (Option.some.inj h4).symm)⟩
  · have := hw2.acc
    simpa using this
  · rw [Store.get_set_ne _ _ (fun e => h2 (by rw [e]; simp [objs])), get_frz (hp j h1)]
theorem acc_out_imm {m : Nat} {v : AVal} {rows : List (List AVal)} {sz : Nat} {others : List Nat} (h : Acc σ sz v rows others) (hs : ∀ y ∈ rows, ∀ c ∈ y, immA (m + 1) c = true) : Out (m + 2) σ v (.lst rows) := by
  rcases h.2 with ⟨rfl, rfl⟩ | ⟨i, ver, off, xs, rfl, h2, h3, h4, h5⟩
  · exact out_nils
  · exact out_sl_imm h2 h4 h5 hs
theorem out_ptr {m id ver i o : Nat} {fz : Bool} {sz : Nat} {xs : List (List AVal)} {cs ds : List AVal} (h : rowAt σ id ver = some (fz, sz, xs)) (hi : xs[i]? = some cs) (hc : OutL m σ cs ds) : Out (m + 1) σ (.ptr id ver i o) (.iptr ds o) := by
  obtain ⟨ys, h1, h2, h3⟩ := outL_spec hc
  unfold snapL at h1
  refine ⟨.iptr ys o, ?_, sub_iptr h2 h3⟩
  unfold snap
  simp [h, hi, h1]
theorem out_agg {m : Nat} {cs ds : List AVal} (hc : OutL m σ cs ds) : Out (m + 1) σ (.agg cs) (.agg ds) := by
  obtain ⟨ys, h1, h2, h3⟩ := outL_spec hc
  unfold snapL at h1
  refine ⟨.agg ys, ?_, sub_agg h2 h3⟩
  unfold snap
  simp [h1]
/-- More that lies apart. -/
theorem Two.more {s1 s2 : Nat} {v1 v2 : AVal} {r1 r2 : List (List AVal)} {others l : List Nat} (h : Two σ s1 v1 r1 s2 v2 r2 others) (ha : Alive σ l) (hn : ∀ j ∈ l, j ∉ objs v1 ∧ j ∉ objs v2) : Two σ s1 v1 r1 s2 v2 r2 (l ++ others) := by
  refine ⟨h.1.keep (fun _ _ => rfl) (h.1.1.left.app (ha.app h.1.1.right)) fun j hj hm => ?_, h.2.keep (fun _ _ => rfl) (h.2.1.left.app (ha.app h.2.1.right)) fun j hj hm => ?_⟩
  · rcases List.mem_append.1 hm with hm | hm
    · exact h.1.objs_not j hj (List.mem_append_left _ hm)
    · rcases List.mem_append.1 hm with hm | hm
      · exact (hn j hm).1 hj
      · exact h.1.objs_not j hj (List.mem_append_right _ hm)
  · rcases List.mem_append.1 hm with hm | hm
    · exact h.2.objs_not j hj (List.mem_append_left _ hm)
    · rcases List.mem_append.1 hm with hm | hm
      · exact (hn j hm).2 hj
      · exact h.2.objs_not j hj (List.mem_append_right _ hm)
end
end Go.Ab

/- Function values that hold own memory; maps' entries; ends of calls, weakened. -/
set_option linter.unusedVariables false
set_option linter.unusedSimpArgs false
namespace Go.Ab
section
variable {P : Program} {σ τ : Store} {fr fr0 : Fr} {m : Nat}

theorem sub_func {f : FuncId} {xs ys : List AVal} (hl : xs.length = ys.length) (h : ∀ (i : Nat) x y, xs[i]? = some x → ys[i]? = some y → Sub x y) : Sub (.func f xs) (.func f ys) := fun Im w v hr => by
  cases hr with
  | func _ _ vs hs hr =>
    refine .func f ys vs (by omega) fun i y v hy hv => ?_
    have hi : i < xs.length := by rw [hl]; exact (List.getElem?_eq_some_iff.1 hy).1
    exact h i _ y (List.getElem?_eq_getElem hi) hy Im w v (hr i _ v (List.getElem?_eq_getElem hi) hv)
theorem out_func {f : FuncId} {cs ds : List AVal} (hc : OutL m σ cs ds) : Out (m + 1) σ (.func f cs) (.func f ds) := by
  obtain ⟨ys, h1, h2, h3⟩ := outL_spec hc
  unfold snapL at h1
  refine ⟨.func f ys, ?_, sub_func h2 h3⟩
  unfold snap
  simp [h1]

/-! ### Maps -/
theorem lookR_of {id : Nat} {es : List (AVal × AVal)} {ok ag : Bool} {ks : List Nat} {z k : AVal} {r : Option (Nat × AVal)} (h : σ.get id = some (.mp es)) (hk : lookK ag ks k es = some r) : lookR σ ok ag ks z (.map id) k = .val (lookV ok z r) σ := by
  unfold lookR mapEs
  simp only [h, hk]
theorem updR_of {id : Nat} {es : List (AVal × AVal)} {ag : Bool} {ks : List Nat} {k v : AVal} {r : Option (Nat × AVal)} (h : σ.get id = some (.mp es)) (hk : lookK ag ks k es = some r) : updR σ ag ks (.map id) k v = .val (.tup []) (σ.set id (.mp (updEs es k v r))) := by
  unfold updR
  simp only [h, hk]
theorem delR_of {id : Nat} {es : List (AVal × AVal)} {ag : Bool} {ks : List Nat} {k : AVal} {r : Option (Nat × AVal)} (h : σ.get id = some (.mp es)) (hk : lookK ag ks k es = some r) : delR σ ag ks (.map id) k = .val (.tup []) (σ.set id (.mp (delEs es r))) := by
  unfold delR
  simp only [h, hk]

/-- How a kind of key is written down. -/
structure KeyEnc (κ : Type) where
  enc : κ → AVal
  ag : Bool
  ks : List Nat
  cells : κ → List AVal
  hc : ∀ a, keyC ag (enc a) = some (cells a)
  eq : ∀ a b, ∃ t : Bool, eqCells ks (cells a) (cells b) = some t ∧ (t = true ↔ a = b)

/-- Entries say what a function says: each key once. -/
structure MapOf {κ : Type} (E : KeyEnc κ) (es : List (AVal × AVal)) (f : κ → Option AVal) : Prop where
  keys : ∀ p ∈ es, ∃ a, p.1 = E.enc a
  find : ∀ a, ∃ r, lookK E.ag E.ks (E.enc a) es = some r ∧ r.map (·.2) = f a ∧ ∀ i v, r = some (i, v) → es[i]? = some (E.enc a, v)
  once : ∀ (i j : Nat) a v u, es[i]? = some (E.enc a, v) → es[j]? = some (E.enc a, u) → i = j

variable {κ : Type} {E : KeyEnc κ}
theorem KeyEnc.self (E : KeyEnc κ) (a : κ) : eqCells E.ks (E.cells a) (E.cells a) = some true := by
  obtain ⟨t, h1, h2⟩ := E.eq a a
  rw [h1, h2.2 rfl]
theorem KeyEnc.inj (E : KeyEnc κ) {a b : κ} (h : E.enc a = E.enc b) : a = b := by
  obtain ⟨t, h1, h2⟩ := E.eq a b
  have e : E.cells a = E.cells b := by
    have := E.hc a
    rw [h, E.hc b] at this
    exact (Option.some.inj this).symm
  rw [e, E.self b] at h1
  exact h2.1 (Option.some.inj h1).symm
theorem lookK_enc (a : κ) (es : List (AVal × AVal)) : lookK E.ag E.ks (E.enc a) es = findA E.ag E.ks (E.cells a) es 0 := by
  unfold lookK
  simp only [E.hc a, E.self a, Option.isSome_some, if_true]

theorem findA_app (a : κ) (b : κ) (v : AVal) : ∀ (es : List (AVal × AVal)) (i : Nat) (r : Option (Nat × AVal)), findA E.ag E.ks (E.cells a) es i = some r →
    ∃ r', findA E.ag E.ks (E.cells a) (es ++ [(E.enc b, v)]) i = some r' ∧ (r.isSome = true → r' = r) ∧ (r = none → a = b → r' = some (i + es.length, v)) ∧ (r = none → a ≠ b → r' = none)
  | [], i, r, h => by
    simp only [findA, Option.some.injEq] at h
    subst h
    obtain ⟨t, h1, h2⟩ := E.eq a b
    rw [List.nil_append]
    unfold findA
    rw [E.hc b]
    dsimp only
    rw [h1]
    cases t with
    | true => exact ⟨_, rfl, fun h => (by cases h), fun _ _ => by simp, fun _ hn => absurd (h2.1 rfl) hn⟩
    | false => exact ⟨none, rfl, fun _ => rfl, fun _ e => (by have := h2.2 e; cases this), fun _ _ => rfl⟩
  | (k, u) :: es, i, r, h => by
    simp only [findA, List.cons_append] at h ⊢
    split at h
    · rename_i c hc
      split at h
      · injection h with h
        subst h
        exact ⟨_, rfl, by simp, by simp, by simp⟩
      · obtain ⟨r', h1, h2, h3, h4⟩ := findA_app a b v es (i + 1) r h
        exact ⟨r', h1, h2, fun e1 e2 => by rw [h3 e1 e2, List.length_cons]; congr 2; omega, h4⟩
      · cases h
    · cases h
theorem findA_shift (ag : Bool) (ks : List Nat) (kc : List AVal) : ∀ (es : List (AVal × AVal)) (i : Nat) (r : Option (Nat × AVal)), findA ag ks kc es i = some r → ∀ j v, r = some (j, v) → i ≤ j ∧ ∃ k, es[j - i]? = some (k, v) ∧ ∃ c, keyC ag k = some c ∧ eqCells ks kc c = some true
  | [], i, r, h, j, v, e => by simp only [findA, Option.some.injEq] at h; rw [e] at h; cases h
  | (k, u) :: es, i, r, h, j, v, e => by
    simp only [findA] at h
    split at h
    · rename_i c hc
      split at h
      · rename_i hq
        rw [e] at h
        injection h with h
        injection h with h
        injection h with h1 h2
        subst h1
        subst h2
        exact ⟨Nat.le_refl _, k, by simp, c, hc, hq⟩
      · obtain ⟨h1, k', h2, h3⟩ := findA_shift ag ks kc es (i + 1) r h j v e
        refine ⟨by omega, k', ?_, h3⟩
        rw [show j - i = (j - (i + 1)) + 1 by omega]
        simpa using h2
      · cases h
    · cases h
/-- Two lists of entries of the same keys. -/
theorem findA_keys (ag : Bool) (ks : List Nat) (kc : List AVal) : ∀ (es es' : List (AVal × AVal)) (i : Nat) (r : Option (Nat × AVal)), es'.map (·.1) = es.map (·.1) → findA ag ks kc es i = some r →
    ∃ r', findA ag ks kc es' i = some r' ∧ r'.map (·.1) = r.map (·.1) ∧ ∀ j v, r' = some (j, v) → ∃ k, es'[j - i]? = some (k, v)
  | [], [], i, r, _, h => by
    simp only [findA, Option.some.injEq] at h
    subst h
    exact ⟨none, rfl, rfl, fun j v h => by cases h⟩
  | [], _ :: _, i, r, e, h => by simp at e
  | _ :: _, [], i, r, e, h => by simp at e
  | (k, u) :: es, (k', u') :: es', i, r, e, h => by
    simp only [List.map_cons, List.cons.injEq] at e
    obtain ⟨rfl, e⟩ := e
    simp only [findA] at h ⊢
    split at h
    · rename_i c hc
      split at h
      · injection h with h
        subst h
        exact ⟨_, rfl, rfl, fun j v h => by injection h with h; injection h with h1 h2; subst h1; subst h2; exact ⟨k', by simp⟩⟩
      · obtain ⟨r', h1, h2, h3⟩ := findA_keys ag ks kc es es' (i + 1) r e h
        refine ⟨r', h1, h2, fun j v hj => ?_⟩
        obtain ⟨k2, hk2⟩ := h3 j v hj
        have hle := (findA_shift ag ks kc es' (i + 1) r' h1 j v hj).1
        refine ⟨k2, ?_⟩
        rw [show j - i = (j - (i + 1)) + 1 by omega]
        simpa using hk2
      · cases h
    · cases h

theorem mapOf_nil : MapOf E [] (fun _ => none) :=
  ⟨fun p h => (by cases h), fun a => ⟨none, by rw [lookK_enc]; rfl, rfl, fun i v h => (by cases h)⟩, fun i j a v u h => (by simp at h)⟩

theorem mapOf_upd {es : List (AVal × AVal)} {f : κ → Option AVal} [DecidableEq κ] (h : MapOf E es f) (a : κ) (v : AVal) {r : Option (Nat × AVal)} (hr : lookK E.ag E.ks (E.enc a) es = some r) :
    MapOf E (updEs es (E.enc a) v r) (fun b => if b = a then some v else f b) := by
  obtain ⟨r0, h1, h2, h3⟩ := h.find a
  rw [hr] at h1
  injection h1 with h1
  subst h1
  cases r with
  | none =>
    have hno : ∀ (i : Nat) u, es[i]? ≠ some (E.enc a, u) := fun i u hi => by
      -- a key that is there is found
      have key : ∀ (es : List (AVal × AVal)) (s : Nat), findA E.ag E.ks (E.cells a) es s = some none → ∀ (i : Nat) u, es[i]? ≠ some (E.enc a, u) := by
        intro es
        induction es with
        | nil => intro s _ i u h; simp at h
        | cons p es ih =>
          obtain ⟨k, u0⟩ := p
          intro s hf i u h
          simp only [findA] at hf
          split at hf
          · rename_i c hc
            split at hf
            · cases hf
            · rename_i hq
              cases i with
              | zero =>
                simp at h
                obtain ⟨rfl, rfl⟩ := h
                rw [E.hc a] at hc
                injection hc with hc
                subst hc
                rw [E.self a] at hq
                cases hq
              | succ i => exact ih _ hf i u (by simpa using h)
            · cases hf
          · cases hf
      rw [lookK_enc] at hr
      exact key es 0 hr i u hi
    refine ⟨fun p hp => ?_, fun b => ?_, fun i j b u1 u2 hi hj => ?_⟩
    · simp only [updEs, List.mem_append, List.mem_singleton] at hp
      rcases hp with hp | rfl
      · exact h.keys p hp
      · exact ⟨a, rfl⟩
    · obtain ⟨r, g1, g2, g3⟩ := h.find b
      rw [lookK_enc] at g1
      obtain ⟨r', k1, k2, k3, k4⟩ := findA_app b a v es 0 r g1
      refine ⟨r', by rw [lookK_enc]; exact k1, ?_, fun i u hi => ?_⟩
      · cases hrr : r with
        | some p =>
          have := k2 (by rw [hrr]; rfl)
          have hba : ¬ b = a := fun e => by
            subst e
            rw [lookK_enc, g1] at hr
            injection hr with hr
            rw [hr] at hrr
            cases hrr
          rw [this, if_neg hba, g2]
        | none =>
          by_cases e : b = a
          · rw [k3 hrr e, if_pos e]; rfl
          · rw [k4 hrr e, if_neg e, ← g2, hrr]
      · simp only [updEs]
        cases hrr : r with
        | some p =>
          have := k2 (by rw [hrr]; rfl)
          rw [this] at hi
          have hget := g3 i u hi
          rw [List.getElem?_append_left (List.getElem?_eq_some_iff.1 hget).1]
          exact hget
        | none =>
          by_cases e : b = a
          · rw [k3 hrr e] at hi
            injection hi with hi
            injection hi with hi1 hi2
            subst hi1
            subst hi2
            rw [Nat.zero_add, List.getElem?_append_right (Nat.le_refl _), Nat.sub_self, e]
            rfl
          · rw [k4 hrr e] at hi
            cases hi
    · simp only [updEs] at hi hj
      have place : ∀ (k : Nat) u, (es ++ [(E.enc a, v)])[k]? = some (E.enc b, u) → (b ≠ a ∧ es[k]? = some (E.enc b, u)) ∨ (b = a ∧ k = es.length) := fun k u hk => by
        by_cases hlt : k < es.length
        · rw [List.getElem?_append_left hlt] at hk
          by_cases e : b = a
          · subst e
            exact absurd hk (hno k u)
          · exact .inl ⟨e, hk⟩
        · rw [List.getElem?_append_right (by omega)] at hk
          cases hd : k - es.length with
          | zero =>
            rw [hd] at hk
            simp at hk
            exact .inr ⟨(E.inj hk.1).symm, by omega⟩
          | succ n => rw [hd] at hk; simp at hk
      rcases place i u1 hi with ⟨e1, q1⟩ | ⟨e1, q1⟩ <;> rcases place j u2 hj with ⟨e2, q2⟩ | ⟨e2, q2⟩
      · exact h.once i j b u1 u2 q1 q2
      · exact absurd e2 e1
      · exact absurd e1 e2
      · omega
  | some p =>
    obtain ⟨n, u0⟩ := p
    have hn := h3 n u0 rfl
    have hnl : n < es.length := (List.getElem?_eq_some_iff.1 hn).1
    have hkeys : (es.set n (E.enc a, v)).map (·.1) = es.map (·.1) := by
      apply List.ext_getElem?
      intro i
      simp only [List.getElem?_map, List.getElem?_set]
      split
      · rename_i e
        subst e
        rw [hn]
        rfl
      · rfl
    have hget : ∀ (k : Nat) b u, (es.set n (E.enc a, v))[k]? = some (E.enc b, u) → ∃ u', es[k]? = some (E.enc b, u') := fun k b u hk => by
      rw [List.getElem?_set] at hk
      split at hk
      · rename_i e
        subst e
        injection hk with hk
        injection hk with hk _
        exact ⟨u0, by rw [hn, hk]⟩
      · exact ⟨u, hk⟩
    refine ⟨fun p hp => ?_, fun b => ?_, fun i j b u1 u2 hi hj => ?_⟩
    · obtain ⟨i, hi⟩ := List.getElem?_of_mem hp
      simp only [updEs] at hi
      rw [List.getElem?_set] at hi
      split at hi
      · rename_i e
        subst e
        injection hi with hi
        rw [← hi]
        exact ⟨a, rfl⟩
      · exact h.keys p (List.mem_of_getElem? hi)
    · obtain ⟨r, g1, g2, g3⟩ := h.find b
      rw [lookK_enc] at g1
      obtain ⟨r', k1, k2, k3⟩ := findA_keys E.ag E.ks (E.cells b) es (es.set n (E.enc a, v)) 0 r hkeys g1
      have hval : ∀ i u, r' = some (i, u) → (es.set n (E.enc a, v))[i]? = some (E.enc b, u) := fun i u hi => by
        obtain ⟨k, hk⟩ := k3 i u hi
        rw [Nat.sub_zero] at hk
        have : ∃ u', r = some (i, u') := by
          rw [hi] at k2
          cases r with
          | none => cases k2
          | some p => obtain ⟨x, y⟩ := p; simp at k2; exact ⟨y, by rw [k2]⟩
        obtain ⟨u', hu'⟩ := this
        have h5 := g3 i u' hu'
        rw [hk]
        have : ((es.set n (E.enc a, v)).map (·.1))[i]? = (es.map (·.1))[i]? := by rw [hkeys]
        simp only [List.getElem?_map, hk, h5, Option.map_some, Option.some.injEq] at this
        rw [this]
      refine ⟨r', by rw [lookK_enc]; exact k1, ?_, hval⟩
      cases hrr : r' with
      | none =>
        rw [hrr] at k2
        have hr0 : r = none := by cases r with | none => rfl | some _ => cases k2
        rw [hr0] at g2
        have hba : b ≠ a := fun e => by
          subst e
          rw [lookK_enc, g1, hr0] at hr
          injection hr with hr
          cases hr
        rw [if_neg hba, ← g2]
      | some q =>
        obtain ⟨i, u⟩ := q
        have h6 := hval i u hrr
        by_cases e : b = a
        · rw [if_pos e]
          subst e
          obtain ⟨u', h7⟩ := hget i b u h6
          have : i = n := h.once i n b u' u0 h7 hn
          subst this
          rw [List.getElem?_set_self hnl] at h6
          injection h6 with h6
          injection h6 with _ h6
          rw [h6]
          rfl
        · rw [if_neg e, ← g2]
          rw [hrr] at k2
          cases hr0 : r with
          | none => rw [hr0] at k2; cases k2
          | some q =>
            obtain ⟨i', u'⟩ := q
            rw [hr0] at k2
            simp at k2
            subst k2
            have h8 := g3 i u' hr0
            have hne : i ≠ n := fun e2 => by
              subst e2
              rw [hn] at h8
              injection h8 with h8
              injection h8 with h8 _
              exact e (E.inj h8).symm
            rw [List.getElem?_set_ne (fun e2 => hne e2.symm)] at h6
            rw [h8] at h6
            injection h6 with h6
            injection h6 with _ h6
            rw [h6]
    · obtain ⟨u1', q1⟩ := hget i b u1 hi
      obtain ⟨u2', q2⟩ := hget j b u2 hj
      exact h.once i j b u1' u2' q1 q2


/-! ### Weakening -/
theorem weak_map {n id : Nat} {es es' : List (AVal × AVal)} (hget : τ.get id = some (.mp es)) (hl : es'.length = es.length)
    (hc : ∀ (i : Nat) k v k' v', es[i]? = some (k, v) → es'[i]? = some (k', v') → k' = k ∧ (v' = v ∨ Thaw n τ v v')) : Weak fr τ fr (τ.set id (.mp es')) := fun α Im w tmps hs hg => by
  obtain ⟨l, ces, clock, k1, k2, k3, k4, k5, k6⟩ := hs.obj id _ hget
  have new : ObjOk α Im w id (.mp es') := by
    refine ⟨l, ces, clock, k1, k2, by rw [hl]; exact k3, fun i k' v' hi' => ?_, k5, k6⟩
    have hi : i < es.length := by rw [← hl]; exact (List.getElem?_eq_some_iff.1 hi').1
    have hx : es[i]? = some (es[i].1, es[i].2) := List.getElem?_eq_getElem hi
    obtain ⟨rfl, c2⟩ := hc i _ _ _ _ hx hi'
    obtain ⟨c, u1, u2, u3⟩ := k4 i _ _ hx
    refine ⟨c, u1, u2, ?_⟩
    rcases c2 with h1 | h1
    · rw [h1]; exact u3
    · exact h1.rel hs u3
  have conv : ∀ i o, (τ.set id (.mp es')).get i = some o → ∃ o0, τ.get i = some o0 ∧ loc α i o0 = loc α i o ∧ o0.fz = o.fz := fun i o hi => by
    rw [Store.get_set] at hi
    split at hi
    · rename_i e; subst e
      cases hi
      exact ⟨_, hget, rfl, rfl⟩
    · exact ⟨o, hi, rfl, rfl⟩
  refine ⟨Im, ⟨fun i o hi => ?_, fun i j oi oj li lj hij hi hj h1 h2 => ?_, hs.im, hs.fin⟩, hg, ⟨le_refl α, fun _ h => h, rfl, rfl, ⟨rfl, Nat.le_refl _⟩, Nat.le_refl _, fun _ _ _ => rfl, fun b hb => ?_, fun b hb => .inl hb⟩⟩
  · rw [Store.get_set] at hi
    split at hi
    · rename_i e; subst e; cases hi; exact new
    · exact hs.obj i o hi
  · obtain ⟨o1, a1, a2, _⟩ := conv i oi hi
    obtain ⟨o2, b1, b2, _⟩ := conv j oj hj
    exact hs.inj i j o1 o2 li lj hij a1 b1 (a2.trans h1) (b2.trans h2)
  · obtain ⟨i, o, l', g1, g2, g3, rfl⟩ := hb
    obtain ⟨o0, a1, a2, a3⟩ := conv i o g1
    exact .inl ⟨i, o0, l', a1, a3.trans g2, a2.trans g3, rfl⟩

/-- What a call leaves, told in other words. -/
theorem Good.weak {f : FuncId} {args : List AVal} {Q : AVal → Store → Prop} (h : Good P f args σ (fun r τ => ∃ r0 τ0, Weak [(0, r)] τ [(0, r0)] τ0 ∧ Q r0 τ0)) : Good P f args σ Q :=
  ⟨h.1, fun α Im w cargs hs hr => (h.2 α Im w cargs hs hr).mono fun e w' ⟨v, r, σ', α', Im', h1, ⟨r0, τ0, hw, hq⟩, h3, h4, h5⟩ => by
    obtain ⟨J, f1, f2, f3⟩ := hw α' Im' w' #[v] h3 (fun s => by
      simp only [Fr.get]
      split
      · rename_i e; subst e; exact h4
      · exact .undef _)
    have := f2 0
    simp only [Fr.get, if_true] at this
    exact ⟨v, r0, τ0, α', J, h1, hq, f1, this, h5.trans f3⟩⟩

end
end Go.Ab
