/- A part of the proof: lemmas alone, no statement. -/
import Derived.Calls
import Derived.Control
import Derived.Laws.World
import Derived.Below
import GoSem.Dispatch
import Derived.Laws.Cells
import Derived.Laws.Append
import Derived.Laws.IdiomCopy
import Derived.Deep.AppendSrc
import Derived.Laws.MakeOwn
import Derived.Laws.Slices
import Derived.Laws.Strings
import Derived.Laws.Tables
import Derived.ChangeKeysEq
import Derived.MapKept
import Derived.WideKeyRuns
import Derived.Lib.SlicesS
import Derived.Orders
set_option linter.unusedVariables false
set_option linter.unusedSimpArgs false
set_option linter.unnecessarySimpa false
set_option linter.unusedSectionVars false
/- The abstract values and stores of our logic, and how they are related to the model's values and worlds. -/
set_option linter.unusedVariables false
namespace Go.Ab

/-- Abstract values. sc: a scalar of the model. lst, iptr: memory that nobody writes any more. sl, ptr, map: into an object of the store. -/
inductive AVal where
  | undef
  | sc (v : Value)
  | nilp
  | ptr (id ver i o : Nat)
  | iptr (cs : List AVal) (o : Nat)
  | nils
  | lst (xs : List (List AVal))
  | emp
  | sl (id ver off len sz : Nat)
  | nilm
  | map (id : Nat)
  | nilf
  | func (f : FuncId) (cap : List AVal)
  | agg (cs : List AVal)
  | tup (vs : List AVal)
  deriving Inhabited

def AVal.cells : AVal → List AVal
  | .agg cs => cs
  | v => [v]

def scalar : Value → Bool
  | .bool _ | .int _ _ | .float _ _ | .complex _ _ _ | .string _ => true
  | _ => false

/-- Where a row lies: its block, its first cell, an element's cells, the block's cells. -/
structure Loc where
  b : Nat
  base : Nat
  sz : Nat
  N : Nat

abbrev Asg := Nat → Nat → Option Loc

def Asg.le (α β : Asg) : Prop := ∀ id v l, α id v = some l → β id v = some l
theorem le_refl (α : Asg) : Asg.le α α := fun _ _ _ h => h
theorem le_trans {α β γ : Asg} (h : Asg.le α β) (k : Asg.le β γ) : Asg.le α γ := fun _ _ _ e => k _ _ _ (h _ _ _ e)

def Asg.none : Asg := fun _ _ => Option.none

inductive Rel : Asg → (Nat → Prop) → World → AVal → Value → Prop
  | undef {α : Asg} {Im : Nat → Prop} {w : World} (v : Value) : Rel α Im w .undef v
  | sc {α : Asg} {Im : Nat → Prop} {w : World} (v : Value) (h : scalar v = true) : Rel α Im w (.sc v) v
  | nilp {α : Asg} {Im : Nat → Prop} {w : World} : Rel α Im w .nilp (.pointer none)
  | ptr {α : Asg} {Im : Nat → Prop} {w : World} (id ver i o : Nat) (l : Loc) (h : α id ver = some l) : Rel α Im w (.ptr id ver i o) (.pointer (some ⟨l.b, l.base + i * l.sz + o, none⟩))
  | iptr {α : Asg} {Im : Nat → Prop} {w : World} (cs : List AVal) (o b base : Nat) (f : Nat → Value) (him : Im b)
      (hc : ∀ (j : Nat) (x : AVal), cs[j]? = some x → w.cell? ⟨b, base + j, none⟩ = some (f j) ∧ (f j).oneCell' = true)
      (hr : ∀ (j : Nat) (x : AVal), cs[j]? = some x → Rel Asg.none Im w x (f j)) : Rel α Im w (.iptr cs o) (.pointer (some ⟨b, base + o, none⟩))
  | nils {α : Asg} {Im : Nat → Prop} {w : World} : Rel α Im w .nils (.slice none 0 0)
  | lst0 {α : Asg} {Im : Nat → Prop} {w : World} (a : Option Addr) (cap : Nat) : Rel α Im w (.lst []) (.slice a 0 cap)
  | lst {α : Asg} {Im : Nat → Prop} {w : World} (xs : List (List AVal)) (b base sz cap : Nat) (f : Nat → Nat → Value) (him : Im b) (hcap : xs.length ≤ cap)
      (hsz : ∀ (i : Nat) (x : List AVal), xs[i]? = some x → x.length = sz)
      (hc : ∀ (i : Nat) (x : List AVal) (j : Nat) (y : AVal), xs[i]? = some x → x[j]? = some y → w.cell? ⟨b, base + i * sz + j, none⟩ = some (f i j) ∧ (f i j).oneCell' = true)
      (hr : ∀ (i : Nat) (x : List AVal) (j : Nat) (y : AVal), xs[i]? = some x → x[j]? = some y → Rel Asg.none Im w y (f i j)) : Rel α Im w (.lst xs) (.slice (some ⟨b, base, none⟩) xs.length cap)
  | emp {α : Asg} {Im : Nat → Prop} {w : World} (a : Option Addr) : Rel α Im w .emp (.slice a 0 0)
  | sl0 {α : Asg} {Im : Nat → Prop} {w : World} (id ver off : Nat) (l : Loc) (a : Option Addr) (h : α id ver = some l) : Rel α Im w (.sl id ver off 0 l.sz) (.slice a 0 0)
  | sl {α : Asg} {Im : Nat → Prop} {w : World} (id ver off len cap : Nat) (l : Loc) (h : α id ver = some l) (hcap : len ≤ cap) (hN : l.base + (off + cap) * l.sz ≤ l.N) :
      Rel α Im w (.sl id ver off len l.sz) (.slice (some ⟨l.b, l.base + off * l.sz, none⟩) len cap)
  | nilm {α : Asg} {Im : Nat → Prop} {w : World} : Rel α Im w .nilm (.map none)
  | map {α : Asg} {Im : Nat → Prop} {w : World} (id : Nat) (l : Loc) (h : α id 0 = some l) : Rel α Im w (.map id) (.map (some l.b))
  | nilf {α : Asg} {Im : Nat → Prop} {w : World} : Rel α Im w .nilf .nilFunc
  | func {α : Asg} {Im : Nat → Prop} {w : World} (f : FuncId) (cap : List AVal) (vs : Array Value) (hs : vs.size = cap.length)
      (hr : ∀ (i : Nat) x v, cap[i]? = some x → vs[i]? = some v → Rel α Im w x v) : Rel α Im w (.func f cap) (.func (.func f) #[] vs)
  | agg {α : Asg} {Im : Nat → Prop} {w : World} (cs : List AVal) (vs : Array Value) (hs : vs.size = cs.length) (h1 : ∀ (i : Nat) v, vs[i]? = some v → v.oneCell' = true)
      (hr : ∀ (i : Nat) x v, cs[i]? = some x → vs[i]? = some v → Rel α Im w x v) : Rel α Im w (.agg cs) (.agg vs)
  | tup {α : Asg} {Im : Nat → Prop} {w : World} (cs : List AVal) (vs : Array Value) (hs : vs.size = cs.length)
      (hr : ∀ (i : Nat) x v, cs[i]? = some x → vs[i]? = some v → Rel α Im w x v) : Rel α Im w (.tup cs) (.tuple vs)

theorem cell_of_heap {w w' : World} {a : Addr} (h : w'.heap[a.block]? = w.heap[a.block]?) : w'.cell? a = w.cell? a := by
  unfold World.cell?; rw [h]

theorem Rel.mono {α β : Asg} {Im Jm : Nat → Prop} {w w' : World} (hα : Asg.le α β) (hI : ∀ b, Im b → Jm b) (hw : ∀ b, Im b → w'.heap[b]? = w.heap[b]?)
    {x : AVal} {v : Value} (h : Rel α Im w x v) : Rel β Jm w' x v := by
  induction h generalizing β with
  | undef v => exact .undef v
  | sc v h => exact .sc v h
  | nilp => exact .nilp
  | ptr id ver i o l h => exact .ptr id ver i o l (hα _ _ _ h)
  | iptr cs o b base f him hc hr ih => exact .iptr cs o b base f (hI _ him) (fun j x hj => ⟨(cell_of_heap (hw b him)).trans (hc j x hj).1, (hc j x hj).2⟩) (fun j x hj => ih j x hj (le_refl _) hI hw)
  | nils => exact .nils
  | lst0 a cap => exact .lst0 a cap
  | lst xs b base sz cap f him hcap hsz hc hr ih => exact .lst xs b base sz cap f (hI _ him) hcap hsz (fun i x j y hi hj => ⟨(cell_of_heap (hw b him)).trans (hc i x j y hi hj).1, (hc i x j y hi hj).2⟩) (fun i x j y hi hj => ih i x j y hi hj (le_refl _) hI hw)
  | emp a => exact .emp a
  | sl0 id ver off l a h => exact .sl0 id ver off l a (hα _ _ _ h)
  | sl id ver off len cap l h hcap hN => exact .sl id ver off len cap l (hα _ _ _ h) hcap hN
  | nilm => exact .nilm
  | map id l h => exact .map id l (hα _ _ _ h)
  | nilf => exact .nilf
  | func f cap vs hs hr ih => exact .func f cap vs hs (fun i x v hx hv => ih i x v hx hv hα hI hw)
  | agg cs vs hs h1 hr ih => exact .agg cs vs hs h1 (fun i x v hx hv => ih i x v hx hv hα hI hw)
  | tup cs vs hs hr ih => exact .tup cs vs hs (fun i x v hx hv => ih i x v hx hv hα hI hw)

theorem none_le (α : Asg) : Asg.le Asg.none α := fun _ _ _ h => by cases h
theorem Rel.lift {α : Asg} {Im : Nat → Prop} {w : World} {x : AVal} {v : Value} (h : Rel Asg.none Im w x v) : Rel α Im w x v := h.mono (none_le α) (fun _ h => h) (fun _ _ => rfl)

/-! ### The store -/
inductive Obj where
  | row (ver : Nat) (fz : Bool) (sz : Nat) (xs : List (List AVal))
  | mp (es : List (AVal × AVal))

def Obj.fz : Obj → Bool
  | .row _ fz _ _ => fz
  | .mp _ => false

structure Store where
  f : Nat → Option Obj
  fin : ∃ N, ∀ i, N ≤ i → f i = none
def Store.get (σ : Store) (i : Nat) : Option Obj := σ.f i
def Store.empty : Store := ⟨fun _ => none, 0, fun _ _ => rfl⟩
def Store.set (σ : Store) (i : Nat) (o : Obj) : Store := ⟨fun j => if j = i then some o else σ.f j, by
  obtain ⟨N, h⟩ := σ.fin
  refine ⟨max N (i + 1), fun j hj => ?_⟩
  show (if j = i then some o else σ.f j) = none
  rw [if_neg (by omega)]
  exact h j (by omega)⟩
def Store.del (σ : Store) (p : Nat → Bool) : Store := ⟨fun j => if p j then none else σ.f j, by
  obtain ⟨N, h⟩ := σ.fin
  refine ⟨N, fun j hj => ?_⟩
  show (if p j then none else σ.f j) = none
  split
  · rfl
  · exact h j hj⟩
theorem Store.ext {σ τ : Store} (h : ∀ i, σ.get i = τ.get i) : σ = τ := by
  cases σ; cases τ; congr; exact funext h
@[simp] theorem Store.get_empty (i : Nat) : Store.empty.get i = none := rfl
@[simp] theorem Store.get_set_self (σ : Store) (i : Nat) (o : Obj) : (σ.set i o).get i = some o := by simp [Store.get, Store.set]
theorem Store.get_set (σ : Store) (i j : Nat) (o : Obj) : (σ.set i o).get j = if j = i then some o else σ.get j := rfl
theorem Store.get_set_ne (σ : Store) {i j : Nat} (o : Obj) (h : j ≠ i) : (σ.set i o).get j = σ.get j := by simp [Store.get_set, h]
theorem Store.get_del (σ : Store) (p : Nat → Bool) (j : Nat) : (σ.del p).get j = if p j then none else σ.get j := rfl
@[simp] theorem Store.set_set (σ : Store) (i : Nat) (o o' : Obj) : (σ.set i o).set i o' = σ.set i o' := Store.ext fun j => by
  simp only [Store.get_set]; split <;> rfl
theorem Store.set_comm (σ : Store) {i j : Nat} (h : i ≠ j) (o o' : Obj) : (σ.set i o).set j o' = (σ.set j o').set i o := Store.ext fun k => by
  simp only [Store.get_set]
  by_cases h1 : k = j
  · subst h1; rw [if_pos rfl, if_neg (fun e => h e.symm), if_pos rfl]
  · by_cases h2 : k = i
    · subst h2; simp [h1]
    · simp [h1, h2]
theorem Store.set_get (σ : Store) {i : Nat} {o : Obj} (h : σ.get i = some o) : σ.set i o = σ := Store.ext fun k => by
  simp only [Store.get_set]; split
  · rename_i e; rw [e, h]
  · rfl
theorem Store.fresh (σ : Store) : ∃ N, ∀ i, N ≤ i → σ.get i = none := σ.fin

def loc (α : Asg) (id : Nat) : Obj → Option Loc
  | .row ver _ _ _ => α id ver
  | .mp _ => α id 0

def ObjOk (α : Asg) (Im : Nat → Prop) (w : World) (id : Nat) : Obj → Prop
  | .row ver fz sz xs => ∃ l arr e fr, α id ver = some l ∧ l.sz = sz ∧ w.heap[l.b]? = some (.cells arr e fr) ∧ arr.size = l.N ∧ l.base + xs.length * sz ≤ l.N ∧
      (∀ o, o < l.N → ¬(fr.1 ≤ o ∧ o < fr.2)) ∧
      (∀ (i : Nat) (x : List AVal), xs[i]? = some x → x.length = sz ∧ ∀ (j : Nat) (y : AVal), x[j]? = some y → ∃ u, arr[l.base + i * sz + j]? = some u ∧ u.oneCell' = true ∧ Rel α Im w y u) ∧
      (fz = true → Im l.b) ∧ (fz = false → ¬ Im l.b) ∧ (∀ v, ver < v → α id v = none)
  | .mp es => ∃ l ces clock, α id 0 = some l ∧ w.heap[l.b]? = some (.map ces clock) ∧ ces.size = es.length ∧
      (∀ (i : Nat) (k v : AVal), es[i]? = some (k, v) → ∃ c : MapEntry, ces[i]? = some c ∧ Rel α Im w k c.key ∧ Rel α Im w v c.val) ∧ ¬ Im l.b ∧ (∀ v, 0 < v → α id v = none)

theorem ObjOk.hasLoc {α : Asg} {Im : Nat → Prop} {w : World} {id : Nat} {o : Obj} (h : ObjOk α Im w id o) : ∃ l, loc α id o = some l ∧ l.b < w.heap.size := by
  cases o with
  | row ver fz sz xs =>
    obtain ⟨l, arr, e, fr, h1, _, h2, _⟩ := h
    exact ⟨l, h1, (Array.getElem?_eq_some_iff.1 h2).1⟩
  | mp es =>
    obtain ⟨l, ces, clock, h1, h2, _⟩ := h
    exact ⟨l, h1, (Array.getElem?_eq_some_iff.1 h2).1⟩

structure Sim (α : Asg) (Im : Nat → Prop) (σ : Store) (w : World) : Prop where
  obj : ∀ id o, σ.get id = some o → ObjOk α Im w id o
  inj : ∀ i j oi oj li lj, i ≠ j → σ.get i = some oi → σ.get j = some oj → loc α i oi = some li → loc α j oj = some lj → li.b ≠ lj.b
  im : ∀ b, Im b → b < w.heap.size
  fin : ∃ N, ∀ i, N ≤ i → ∀ v, α i v = none

/-- The block is one that the store may write. -/
def Owned (α : Asg) (σ : Store) (b : Nat) : Prop := ∃ id o l, σ.get id = some o ∧ o.fz = false ∧ loc α id o = some l ∧ l.b = b

/-- Nothing below a height has turned, and no fewer draws were made. -/
structure Blw (B : Nat) (w w' : World) : Prop extends RowKit.Below B w w' where
  drawn : w.drawn ≤ w'.drawn

structure Step (α : Asg) (Im : Nat → Prop) (σ : Store) (w : World) (α' : Asg) (Im' : Nat → Prop) (σ' : Store) (w' : World) : Prop where
  le : Asg.le α α'
  imle : ∀ b, Im b → Im' b
  os : w'.os = w.os
  tape : w'.tape = w.tape
  output : w'.output = w.output ∧ w.drawn ≤ w'.drawn
  size : w.heap.size ≤ w'.heap.size
  unch : ∀ b, b < w.heap.size → ¬ Owned α σ b → w'.heap[b]? = w.heap[b]?
  own : ∀ b, Owned α' σ' b → Owned α σ b ∨ w.heap.size ≤ b
  imb : ∀ b, Im' b → Im b ∨ Owned α σ b ∨ w.heap.size ≤ b

theorem Step.refl (α : Asg) (Im : Nat → Prop) (σ : Store) (w : World) : Step α Im σ w α Im σ w :=
  ⟨(le_refl α), fun _ h => h, rfl, rfl, ⟨rfl, Nat.le_refl _⟩, Nat.le_refl _, fun _ _ _ => rfl, fun _ h => .inl h, fun _ h => .inl h⟩

theorem Step.trans {α β γ : Asg} {I J K : Nat → Prop} {σ τ υ : Store} {a b c : World} (h : Step α I σ a β J τ b) (k : Step β J τ b γ K υ c) : Step α I σ a γ K υ c where
  le := le_trans h.le k.le
  imle := fun x hx => k.imle x (h.imle x hx)
  os := k.os.trans h.os
  tape := k.tape.trans h.tape
  output := ⟨k.output.1.trans h.output.1, Nat.le_trans h.output.2 k.output.2⟩
  size := Nat.le_trans h.size k.size
  unch := fun x hx ho => by
    rw [k.unch x (Nat.lt_of_lt_of_le hx h.size) (fun ho' => ?_), h.unch x hx ho]
    rcases h.own x ho' with h1 | h1
    · exact ho h1
    · omega
  own := fun x hx => by
    rcases k.own x hx with h1 | h1
    · exact h.own x h1
    · exact .inr (Nat.le_trans h.size h1)
  imb := fun x hx => by
    rcases k.imb x hx with h1 | h1 | h1
    · exact h.imb x h1
    · rcases h.own x h1 with h2 | h2
      · exact .inr (.inl h2)
      · exact .inr (.inr h2)
    · exact .inr (.inr (Nat.le_trans h.size h1))

theorem Sim.not_im {α : Asg} {Im : Nat → Prop} {σ : Store} {w : World} (h : Sim α Im σ w) {b : Nat} (ho : Owned α σ b) : ¬ Im b := by
  obtain ⟨id, o, l, h1, h2, h3, rfl⟩ := ho
  have hk := h.obj id o h1
  cases o with
  | row ver fz sz xs =>
    obtain ⟨l', arr, e, fr, h4, _, _, _, _, _, _, _, hn, _⟩ := hk
    have : l = l' := by simp only [loc] at h3; rw [h3] at h4; exact Option.some.inj h4
    subst this
    exact hn h2
  | mp es =>
    obtain ⟨l', ces, clock, h4, _, _, _, hn, _⟩ := hk
    have : l = l' := by simp only [loc] at h3; rw [h3] at h4; exact Option.some.inj h4
    subst this
    exact hn

theorem Step.im_heap {α β : Asg} {I J : Nat → Prop} {σ τ : Store} {a b : World} (h : Step α I σ a β J τ b) (hs : Sim α I σ a) : ∀ x, I x → b.heap[x]? = a.heap[x]? :=
  fun x hx => h.unch x (hs.im x hx) (fun ho => hs.not_im ho hx)

theorem Step.rel {α β : Asg} {I J : Nat → Prop} {σ τ : Store} {a b : World} (h : Step α I σ a β J τ b) (hs : Sim α I σ a) {x : AVal} {v : Value} (hr : Rel α I a x v) : Rel β J b x v :=
  hr.mono h.le h.imle (h.im_heap hs)

theorem ObjOk.mono {α β : Asg} {I J : Nat → Prop} {w w' : World} {id : Nat} {o : Obj} (h : ObjOk α I w id o) (hα : Asg.le α β) (hβ : ∀ v, β id v = α id v)
    (hI : ∀ b, I b → J b) (hJ : ∀ l, loc α id o = some l → J l.b → I l.b) (hw : ∀ b, I b → w'.heap[b]? = w.heap[b]?) (hb : ∀ l, loc α id o = some l → w'.heap[l.b]? = w.heap[l.b]?) : ObjOk β J w' id o := by
  cases o with
  | row ver fz sz xs =>
    obtain ⟨l, arr, e, fr, h1, h2, h3, h4, h5, h6, h7, h8, h9, h10⟩ := h
    refine ⟨l, arr, e, fr, hα _ _ _ h1, h2, (hb l h1).trans h3, h4, h5, h6, fun i x hx => ?_, fun hf => hI _ (h8 hf), fun hf hj => h9 hf (hJ l h1 hj), fun v hv => by rw [hβ]; exact h10 v hv⟩
    obtain ⟨g1, g2⟩ := h7 i x hx
    refine ⟨g1, fun j y hy => ?_⟩
    obtain ⟨u, g3, g5, g4⟩ := g2 j y hy
    exact ⟨u, g3, g5, g4.mono hα hI hw⟩
  | mp es =>
    obtain ⟨l, ces, clock, h1, h2, h3, h4, h5, h6⟩ := h
    refine ⟨l, ces, clock, hα _ _ _ h1, (hb l h1).trans h2, h3, fun i k v hi => ?_, fun hj => h5 (hJ l h1 hj), fun v hv => by rw [hβ]; exact h6 v hv⟩
    obtain ⟨c, g1, g2, g3⟩ := h4 i k v hi
    exact ⟨c, g1, g2.mono hα hI hw, g3.mono hα hI hw⟩

/-- An object of the store is another one now: its block (or a new one) was written, no other. -/
theorem Sim.put {α β : Asg} {I : Nat → Prop} {σ : Store} {w w' : World} {id : Nat} {o o' : Obj} {l l' : Loc} (h : Sim α I σ w) (ho : σ.get id = some o) (hf : o.fz = false) (hl : loc α id o = some l)
    (hα : Asg.le α β) (hβ : ∀ i, i ≠ id → ∀ v, β i v = α i v) (hfin : ∃ N, ∀ i, N ≤ i → ∀ v, β i v = none)
    (hos : w'.os = w.os) (htape : w'.tape = w.tape) (hout : w'.output = w.output ∧ w.drawn ≤ w'.drawn) (hsz : w.heap.size ≤ w'.heap.size) (hw : ∀ b, b < w.heap.size → b ≠ l.b → w'.heap[b]? = w.heap[b]?)
    (hn : ObjOk β I w' id o') (hl' : loc β id o' = some l') (hb : l'.b = l.b ∨ w.heap.size ≤ l'.b) (hf' : o'.fz = false) :
    Sim β I (σ.set id o') w' ∧ Step α I σ w β I (σ.set id o') w' := by
  have hown : Owned α σ l.b := ⟨id, o, l, ho, hf, hl, rfl⟩
  have him : ∀ b, I b → w'.heap[b]? = w.heap[b]? := fun b hb => hw b (h.im b hb) (fun e => h.not_im hown (e ▸ hb))
  have hlt : ∀ i oi li, σ.get i = some oi → loc α i oi = some li → li.b < w.heap.size := fun i oi li h1 h2 => by
    obtain ⟨l0, h3, h4⟩ := (h.obj i oi h1).hasLoc
    rw [h2] at h3
    exact (Option.some.inj h3) ▸ h4
  have hloc : ∀ i oi, i ≠ id → loc β i oi = loc α i oi := fun i oi hi => by cases oi <;> exact hβ i hi _
  refine ⟨⟨fun i oi hi => ?_, fun i j oi oj li lj hij hi hj h1 h2 => ?_, fun b hb => Nat.lt_of_lt_of_le (h.im b hb) hsz, hfin⟩, ⟨hα, fun _ h => h, hos, htape, hout, hsz, fun b hb hno => hw b hb (fun e => hno (e ▸ hown)), fun b hb => ?_, fun b hb => .inl hb⟩⟩
  · rw [Store.get_set] at hi
    by_cases e : i = id
    · subst e; rw [if_pos rfl] at hi; cases hi; exact hn
    · rw [if_neg e] at hi
      refine (h.obj i oi hi).mono hα (hβ i e) (fun _ h => h) (fun _ _ h => h) him (fun li hli => hw _ (hlt i oi li hi hli) (h.inj i id oi o li l e hi ho hli hl))
  · rw [Store.get_set] at hi hj
    by_cases e : i = id
    · subst e
      rw [if_pos rfl] at hi
      have e2 : j ≠ i := fun x => hij x.symm
      rw [if_neg e2] at hj
      cases hi
      rw [hl'] at h1
      rw [hloc j oj e2] at h2
      have hlj := hlt j oj lj hj h2
      have := h.inj j i oj o lj l e2 hj ho h2 hl
      cases h1
      rcases hb with hb | hb
      · rw [hb]; exact fun x => this x.symm
      · omega
    · rw [if_neg e] at hi
      rw [hloc i oi e] at h1
      by_cases e2 : j = id
      · subst e2
        rw [if_pos rfl] at hj
        cases hj
        rw [hl'] at h2
        cases h2
        have hli := hlt i oi li hi h1
        have := h.inj i j oi o li l e hi ho h1 hl
        rcases hb with hb | hb
        · rw [hb]; exact this
        · omega
      · rw [if_neg e2] at hj
        rw [hloc j oj e2] at h2
        exact h.inj i j oi oj li lj hij hi hj h1 h2
  · obtain ⟨i, oi, li, g1, g2, g3, rfl⟩ := hb
    rw [Store.get_set] at g1
    by_cases e : i = id
    · subst e
      rw [if_pos rfl] at g1
      cases g1
      rw [hl'] at g3
      cases g3
      rcases hb with hb | hb
      · rw [hb]; exact .inl hown
      · exact .inr hb
    · rw [if_neg e] at g1
      rw [hloc i oi e] at g3
      exact .inl ⟨i, oi, li, g1, g2, g3, rfl⟩

/-- A new object. -/
theorem Sim.add {α β : Asg} {I : Nat → Prop} {σ : Store} {w w' : World} {id : Nat} {o' : Obj} {l' : Loc} (h : Sim α I σ w) (ho : σ.get id = none)
    (hα : Asg.le α β) (hβ : ∀ i, i ≠ id → ∀ v, β i v = α i v) (hfin : ∃ N, ∀ i, N ≤ i → ∀ v, β i v = none)
    (hos : w'.os = w.os) (htape : w'.tape = w.tape) (hout : w'.output = w.output ∧ w.drawn ≤ w'.drawn) (hsz : w.heap.size ≤ w'.heap.size) (hw : ∀ b, b < w.heap.size → w'.heap[b]? = w.heap[b]?)
    (hn : ObjOk β I w' id o') (hl' : loc β id o' = some l') (hb : w.heap.size ≤ l'.b) :
    Sim β I (σ.set id o') w' ∧ Step α I σ w β I (σ.set id o') w' := by
  have him : ∀ b, I b → w'.heap[b]? = w.heap[b]? := fun b hb => hw b (h.im b hb)
  have hlt : ∀ i oi li, σ.get i = some oi → loc α i oi = some li → li.b < w.heap.size := fun i oi li h1 h2 => by
    obtain ⟨l0, h3, h4⟩ := (h.obj i oi h1).hasLoc
    rw [h2] at h3
    exact (Option.some.inj h3) ▸ h4
  have hloc : ∀ i oi, i ≠ id → loc β i oi = loc α i oi := fun i oi hi => by cases oi <;> exact hβ i hi _
  refine ⟨⟨fun i oi hi => ?_, fun i j oi oj li lj hij hi hj h1 h2 => ?_, fun b hb => Nat.lt_of_lt_of_le (h.im b hb) hsz, hfin⟩, ⟨hα, fun _ h => h, hos, htape, hout, hsz, fun b hb _ => hw b hb, fun b hb => ?_, fun b hb => .inl hb⟩⟩
  · rw [Store.get_set] at hi
    by_cases e : i = id
    · subst e; rw [if_pos rfl] at hi; cases hi; exact hn
    · rw [if_neg e] at hi
      exact (h.obj i oi hi).mono hα (hβ i e) (fun _ h => h) (fun _ _ h => h) him (fun li hli => hw _ (hlt i oi li hi hli))
  · rw [Store.get_set] at hi hj
    by_cases e : i = id
    · subst e
      have e2 : j ≠ i := fun x => hij x.symm
      rw [if_pos rfl] at hi
      rw [if_neg e2] at hj
      cases hi
      rw [hl'] at h1; cases h1
      rw [hloc j oj e2] at h2
      have := hlt j oj lj hj h2
      omega
    · rw [if_neg e] at hi
      rw [hloc i oi e] at h1
      by_cases e2 : j = id
      · subst e2
        rw [if_pos rfl] at hj
        cases hj
        rw [hl'] at h2; cases h2
        have := hlt i oi li hi h1
        omega
      · rw [if_neg e2] at hj
        rw [hloc j oj e2] at h2
        exact h.inj i j oi oj li lj hij hi hj h1 h2
  · obtain ⟨i, oi, li, g1, g2, g3, rfl⟩ := hb
    rw [Store.get_set] at g1
    by_cases e : i = id
    · subst e
      rw [if_pos rfl] at g1
      cases g1
      rw [hl'] at g3; cases g3
      exact .inr hb
    · rw [if_neg e] at g1
      rw [hloc i oi e] at g3
      exact .inl ⟨i, oi, li, g1, g2, g3, rfl⟩

/-- Only the count of draws is another. -/
theorem Sim.drew {α : Asg} {I : Nat → Prop} {σ : Store} {w w' : World} (h : Sim α I σ w) (hh : w'.heap = w.heap) : Sim α I σ w' := by
  refine ⟨fun i o hi => (h.obj i o hi).mono (le_refl α) (fun _ => rfl) (fun _ h => h) (fun _ _ h => h) (fun _ _ => by rw [hh]) (fun _ _ => by rw [hh]), h.inj, fun b hb => by rw [hh]; exact h.im b hb, h.fin⟩

theorem Step.of_heap {α : Asg} {I : Nat → Prop} {σ : Store} {w w' : World} (hh : w'.heap = w.heap) (hos : w'.os = w.os) (htape : w'.tape = w.tape) (hout : w'.output = w.output ∧ w.drawn ≤ w'.drawn) : Step α I σ w α I σ w' :=
  ⟨(le_refl α), fun _ h => h, hos, htape, hout, by rw [hh]; exact Nat.le_refl _, fun b _ _ => by rw [hh], fun _ h => .inl h, fun _ h => .inl h⟩

/-- Objects are forgotten. -/
theorem Sim.del {α : Asg} {I : Nat → Prop} {σ τ : Store} {w : World} (h : Sim α I σ w) (hle : ∀ i o, τ.get i = some o → σ.get i = some o) : Sim α I τ w ∧ Step α I σ w α I τ w :=
  ⟨⟨fun i o hi => h.obj i o (hle i o hi), fun i j oi oj li lj hij hi hj => h.inj i j oi oj li lj hij (hle _ _ hi) (hle _ _ hj), h.im, h.fin⟩,
   ⟨(le_refl α), fun _ h => h, rfl, rfl, ⟨rfl, Nat.le_refl _⟩, Nat.le_refl _, fun _ _ _ => rfl, fun b hb => by
      obtain ⟨i, o, l, g1, g2, g3, g4⟩ := hb
      exact .inl ⟨i, o, l, hle _ _ g1, g2, g3, g4⟩, fun _ h => .inl h⟩⟩

/-- Objects are frozen: nobody writes them any more. -/
def Store.freeze (σ : Store) (p : Nat → Bool) : Store := ⟨fun j => match σ.f j with
  | some (.row ver fz sz xs) => some (.row ver (fz || p j) sz xs)
  | o => o, by
  obtain ⟨N, h⟩ := σ.fin
  exact ⟨N, fun j hj => by rw [h j hj]⟩⟩
theorem Store.get_freeze (σ : Store) (p : Nat → Bool) (j : Nat) : (σ.freeze p).get j = match σ.get j with
  | some (.row ver fz sz xs) => some (.row ver (fz || p j) sz xs)
  | o => o := rfl

theorem Sim.freeze {α : Asg} {I : Nat → Prop} {σ : Store} {w : World} (p : Nat → Bool) (h : Sim α I σ w) :
    ∃ J : Nat → Prop, Sim α J (σ.freeze p) w ∧ Step α I σ w α J (σ.freeze p) w ∧
      (∀ id ver fz sz xs l, σ.get id = some (.row ver fz sz xs) → p id = true → α id ver = some l → J l.b) := by
  refine ⟨fun b => I b ∨ ∃ id ver fz sz xs l, σ.get id = some (.row ver fz sz xs) ∧ p id = true ∧ α id ver = some l ∧ l.b = b, ?_⟩
  have key : ∀ id o l, σ.get id = some o → loc α id o = some l → (I l.b ∨ ∃ id' ver fz sz xs l', σ.get id' = some (.row ver fz sz xs) ∧ p id' = true ∧ α id' ver = some l' ∧ l'.b = l.b) → I l.b ∨ (p id = true ∧ ∃ ver fz sz xs, o = .row ver fz sz xs) := by
    intro id o l ho hl hj
    rcases hj with hj | ⟨id', ver, fz, sz, xs, l', g1, g2, g3, g4⟩
    · exact .inl hj
    · by_cases e : id' = id
      · subst e
        rw [ho] at g1
        cases g1
        exact .inr ⟨g2, _, _, _, _, rfl⟩
      · exact absurd g4 (h.inj id' id _ o l' l e g1 ho g3 hl)
  refine ⟨⟨fun id o ho => ?_, fun i j oi oj li lj hij hi hj h1 h2 => ?_, fun b hb => ?_, h.fin⟩, ⟨(le_refl α), fun _ h => .inl h, rfl, rfl, ⟨rfl, Nat.le_refl _⟩, Nat.le_refl _, fun _ _ _ => rfl, fun b hb => ?_, fun b hb => ?_⟩, fun id ver fz sz xs l g1 g2 g3 => .inr ⟨id, ver, fz, sz, xs, l, g1, g2, g3, rfl⟩⟩
  · rw [Store.get_freeze] at ho
    cases hg : σ.get id with
    | none => rw [hg] at ho; cases ho
    | some o0 =>
      rw [hg] at ho
      have hk := h.obj id o0 hg
      cases o0 with
      | row ver fz sz xs =>
        injection ho with ho
        subst ho
        obtain ⟨l, arr, e, fr, h1, h2, h3, h4, h5, h6, h7, h8, h9, h10⟩ := hk
        refine ⟨l, arr, e, fr, h1, h2, h3, h4, h5, h6, fun i x hx => ?_, fun hf => ?_, fun hf hj => ?_, h10⟩
        · obtain ⟨g1, g2⟩ := h7 i x hx
          refine ⟨g1, fun j y hy => ?_⟩
          obtain ⟨u, g3, g5, g4⟩ := g2 j y hy
          exact ⟨u, g3, g5, g4.mono (le_refl α) (fun _ h => .inl h) (fun _ _ => rfl)⟩
        · cases fz with
          | true => exact .inl (h8 rfl)
          | false => exact .inr ⟨id, ver, false, sz, xs, l, hg, by simpa using hf, h1, rfl⟩
        · have hf' : fz = false ∧ p id = false := by simpa using hf
          rcases key id _ l hg h1 hj with g | ⟨g, _⟩
          · exact h9 hf'.1 g
          · rw [hf'.2] at g; cases g
      | mp es =>
        injection ho with ho
        subst ho
        obtain ⟨l, ces, clock, h1, h2, h3, h4, h5, h6⟩ := hk
        refine ⟨l, ces, clock, h1, h2, h3, fun i k v hi => ?_, fun hj => ?_, h6⟩
        · obtain ⟨c, g1, g2, g3⟩ := h4 i k v hi
          exact ⟨c, g1, g2.mono (le_refl α) (fun _ h => .inl h) (fun _ _ => rfl), g3.mono (le_refl α) (fun _ h => .inl h) (fun _ _ => rfl)⟩
        · rcases key id _ l hg h1 hj with g | ⟨_, _, _, _, _, g⟩
          · exact h5 g
          · cases g
  · have conv : ∀ i o, (σ.freeze p).get i = some o → ∃ o0, σ.get i = some o0 ∧ loc α i o0 = loc α i o := by
      intro i o hi
      rw [Store.get_freeze] at hi
      cases hg : σ.get i with
      | none => rw [hg] at hi; cases hi
      | some o0 =>
        rw [hg] at hi
        cases o0 <;> (injection hi with hi; subst hi; exact ⟨_, rfl, rfl⟩)
    obtain ⟨o1, g1, g2⟩ := conv i oi hi
    obtain ⟨o2, g3, g4⟩ := conv j oj hj
    exact h.inj i j o1 o2 li lj hij g1 g3 (g2.trans h1) (g4.trans h2)
  · rcases hb with hb | ⟨id, ver, fz, sz, xs, l, g1, g2, g3, rfl⟩
    · exact h.im b hb
    · obtain ⟨l0, k1, k2⟩ := (h.obj id _ g1).hasLoc
      have : l0 = l := by simp only [loc] at k1; rw [g3] at k1; exact (Option.some.inj k1).symm
      exact this ▸ k2
  · obtain ⟨id, o, l, g1, g2, g3, rfl⟩ := hb
    rw [Store.get_freeze] at g1
    cases hg : σ.get id with
    | none => rw [hg] at g1; cases g1
    | some o0 =>
      rw [hg] at g1
      cases o0 with
      | row ver fz sz xs =>
        injection g1 with g1
        subst g1
        have : fz = false ∧ p id = false := by simpa [Obj.fz] using g2
        exact .inl ⟨id, _, l, hg, this.1, g3, rfl⟩
      | mp es =>
        injection g1 with g1
        subst g1
        exact .inl ⟨id, _, l, hg, rfl, g3, rfl⟩
  · rcases hb with hb | ⟨id, ver, fz, sz, xs, l, g1, g2, g3, rfl⟩
    · exact .inl hb
    · cases fz with
      | true =>
        obtain ⟨l0, _, _, _, k1, _, _, _, _, _, _, k8, _⟩ := h.obj id _ g1
        rw [g3] at k1
        exact .inl (Option.some.inj k1 ▸ k8 rfl)
      | false => exact .inr (.inl ⟨id, _, l, g1, rfl, g3, rfl⟩)

end Go.Ab

/- The abstract operations: what the model's operations are once their types are looked up, and what each does to abstract values and stores. -/
set_option linter.unusedVariables false
namespace Go.Ab

/-- What is known of a value, as a list of cells; none: nothing is known of it. -/
def known : AVal → Option (List AVal)
  | .undef | .tup _ => none
  | .agg cs => some cs
  | v => some [v]

def ofCell : Value → AVal
  | .pointer none => .nilp
  | .slice none 0 0 => .nils
  | .map none => .nilm
  | .nilFunc => .nilf
  | v => if scalar v then .sc v else .undef
def ofConst : Value → AVal
  | .agg cs => if cs.all (·.oneCell') then .agg (cs.toList.map ofCell) else .undef
  | .tuple vs => if vs.isEmpty then .tup [] else .undef
  | v => ofCell v

inductive AOp where
  | move (x : Operand)
  | pick (c a b : Operand)
  | alloc (zs : List AVal)
  | box (x : Operand)
  | build (zs : List AVal) (parts : List (Nat × Nat × Operand))
  | buildSlice (sz len : Nat) (zs : List AVal) (parts : List (Nat × Operand))
  | load (agg : Bool) (sz : Nat) (x : Operand)
  | store (sz : Nat) (x v : Operand)
  | nilCheck (x : Operand)
  | bin (op : BinOp) (x y : Operand)
  | eqBool (neg : Bool) (x y : Operand)
  | eqPtr (neg : Bool) (x y : Operand)
  | eqSl (neg : Bool) (x y : Operand)
  | eqAgg (neg : Bool) (ks : List Nat) (x y : Operand)
  | un (op : UnOp) (x : Operand)
  | convInt (k : IntKind) (x : Operand)
  | convStr (x : Operand)
  | makeFunc (f : FuncId) (caps : List Operand)
  | makeSlice (sz bytes : Nat) (zs : List AVal) (l c : Operand)
  | slice (sz : Nat) (x : Operand) (lo hi mx : Option Operand)
  | sliceStr (x : Operand) (lo hi : Option Operand)
  | fieldAddr (off : Nat) (x : Operand)
  | field (agg : Bool) (sz off : Nat) (x : Operand)
  | indexAddrS (sz : Nat) (x i : Operand)
  | indexAddrA (len sz : Nat) (x i : Operand)
  | indexA (len : Nat) (agg : Bool) (sz : Nat) (x i : Operand)
  | indexStr (x i : Operand)
  | extract (x : Operand) (i : Nat)
  | callF (f : FuncId) (args : List Operand)
  | callV (x : Operand) (args : List Operand)
  | lenS (x : Operand)
  | lenStr (x : Operand)
  | append (sz bytes : Nat) (z : List AVal) (s x : Operand)
  | appendStr (bytes : Nat) (z : List AVal) (s x : Operand)
  | minmax (isMax : Bool) (args : List Operand)
  | bad
  | makeMap
  | lookup (ok ag : Bool) (ks : List Nat) (z : AVal) (x i : Operand)
  | mapUpd (ag : Bool) (ks : List Nat) (m k v : Operand)
  | mapDel (ag : Bool) (ks : List Nat) (m k : Operand)
  | capS (x : Operand)
  | appendMk (sz bytes : Nat) (zs : List AVal) (s n : Operand)

/-! ### From the model's operations -/
def cellsZ (v : Value) : Option (List AVal) := if v.cells.all (·.oneCell') then some (v.cells.toList.map ofCell) else none
def isAggD : TypeDesc → Bool
  | .struct _ | .array _ _ => true
  | _ => false
/-- A type whose cells, one by one, are compared by '==': their kinds (0 an int, 1 a bool, 2 a string). -/
def flatFields (eqn : TypeId → Option (List Nat)) : List Field → Nat → Option (List Nat)
  | [], _ => some []
  | f :: r, n => if f.name != "_" && f.offset == n then (match eqn f.type with
    | some m => (flatFields eqn r (n + m.length)).map (m ++ ·)
    | none => none) else none
def flatEq (P : Program) : Nat → TypeId → Option (List Nat)
  | 0, _ => none
  | d + 1, t => match P.underlying t, P.info? t with
    | some (.int _), some i => if i.size = 1 then some [0] else none
    | some .bool, some i => if i.size = 1 then some [1] else none
    | some .string, some i => if i.size = 1 then some [2] else none
    | some (.struct fs), some i => if P.stoodInHeld t then none else match flatFields (flatEq P d) fs.toList 0 with
      | some n => if i.size = n.length then some n else none
      | none => none
    | some (.array k e), some i => match flatEq P d e with
      | some n => if i.size = k * n.length ∧ P.cellsOf e = n.length then some (List.replicate k n).flatten else none
      | none => none
    | _, _ => none
def placesOf (P : Program) (fs : Array Field) : Option (List (Nat × Nat)) := fs.toList.mapM fun f => (P.info? f.type).map fun i => (f.offset, i.size)
def partsOf (pl : Nat → Option (Nat × Nat)) : List (Nat × Operand) → Option (List (Nat × Nat × Operand))
  | [] => some []
  | (i, x) :: r => match pl i, partsOf pl r with
    | some (off, sz), some q => some ((off, sz, x) :: q)
    | _, _ => none

/-- How a map's keys are compared: is the key an array, and its cells' kinds. -/
def keyKs (P : Program) (t : TypeId) : Option (Bool × List Nat) := match P.underlying t with
  | some (.int _) => some (false, [0])
  | some .string => some (false, [2])
  | some (.array n e) => match P.underlying e, P.info? e with
    | some (.int _), some i => if i.size = 1 ∧ flatEq P 10 t = some (List.replicate n 0) then some (true, List.replicate n 0) else none
    | _, _ => none
  | _ => none
def mapTy (P : Program) (t : TypeId) : Option (Bool × List Nat × Value) := match P.underlying t with
  | some (.map kt et) => match keyKs P kt, P.info? et with
    | some (ag, ks), some i => match i.zero with
      | some z => some (ag, ks, z)
      | none => none
    | _, _ => none
  | _ => none

def stripOp (P : Program) : Op → Option AOp
  | .move x | .assign x => some (.move x)
  | .pick c a b => some (.pick c a b)
  | .alloc t => match P.info? t with
    | some i => match i.zero with
      | some z => (cellsZ z).map .alloc
      | none => none
    | none => none
  | .box _ x => some (.box x)
  | .build t ps => match P.underlying t, P.info? t with
    | some (.struct fs), some i => match i.zero, placesOf P fs with
      | some z, some pl => match cellsZ z, partsOf (fun k => pl[k]?) ps.toList with
        | some zs, some qs => some (.build zs qs)
        | _, _ => none
      | _, _ => none
    | some (.array _ e), some i => match i.zero, P.info? e with
      | some z, some j => match cellsZ z, partsOf (fun k => some (k * j.size, j.size)) ps.toList with
        | some zs, some qs => some (.build zs qs)
        | _, _ => none
      | _, _ => none
    | _, _ => none
  | .buildSlice t len ps => match P.underlying t with
    | some (.slice e) => match P.info? e with
      | some j => match j.zero with
        | some z => match cellsZ z with
          | some zs => if zs.length = j.size ∧ 0 < j.size ∧ len * j.size ≤ 16777216 then some (.buildSlice j.size len zs ps.toList) else none
          | none => none
        | none => none
      | none => none
    | _ => none
  | .load t x => match P.underlying t, P.info? t with
    | some d, some i => if isAggD d then some (.load true i.size x) else some (.load false 1 x)
    | _, _ => none
  | .store t x v => match P.info? t with
    | some i => some (.store i.size x v)
    | none => none
  | .nilCheck x => some (.nilCheck x)
  | .binOp op t x y _ => match op with
    | .eql | .neq => match P.underlying t with
      | some (.int _) | some .string => some (.bin op x y)
      | some .bool => some (.eqBool (op == .neq) x y)
      | some (.pointer _) => some (.eqPtr (op == .neq) x y)
      | some (.slice _) => some (.eqSl (op == .neq) x y)
      | some (.struct _) | some (.array _ _) => match flatEq P 10 t, P.eqGuardType P.depth t with
        | some n, false => some (.eqAgg (op == .neq) n x y)
        | _, _ => none
      | _ => none
    | _ => match P.underlying t with
      | some (.int _) | some .string => some (.bin op x y)
      | _ => none
  | .unOp op _ x => some (.un op x)
  | .convert s t x => match P.underlying s, P.underlying t with
    | some (.int _), some (.int k) => some (.convInt k x)
    | some .string, some .string => some (.convStr x)
    | _, _ => none
  | .makeFunc fn first caps => match fn with
    | .func f => if first.isEmpty then some (.makeFunc f caps.toList) else none
    | _ => none
  | .makeSlice t l c => match P.underlying t with
    | some (.slice e) => match P.info? e with
      | some j => match j.zero with
        | some z => match cellsZ z with
          | some zs => if zs.length = j.size ∧ 0 < j.size then some (.makeSlice j.size j.bytes zs l c) else none
          | none => none
        | none => none
      | none => none
    | _ => none
  | .slice t x lo hi mx => match P.underlying t with
    | some (.slice e) => match P.info? e with
      | some j => some (.slice j.size x lo hi mx)
      | none => none
    | some .string => if mx.isNone then some (.sliceStr x lo hi) else none
    | _ => none
  | .fieldAddr s x f => match P.underlying s with
    | some (.struct fs) => match fs[f]? with
      | some fd => match P.info? fd.type with
        | some i => if i.size = 0 then none else some (.fieldAddr fd.offset x)
        | none => none
      | none => none
    | _ => none
  | .field t x f => match P.underlying t with
    | some (.struct fs) => match fs[f]? with
      | some fd => match P.underlying fd.type, P.info? fd.type with
        | some d, some i => some (if isAggD d then .field true i.size fd.offset x else .field false 1 fd.offset x)
        | _, _ => none
      | none => none
    | _ => none
  | .indexAddr t x i => match P.underlying t with
    | some (.slice e) => match P.info? e with
      | some j => some (.indexAddrS j.size x i)
      | none => none
    | some (.array n e) => match P.info? e with
      | some j => some (.indexAddrA n j.size x i)
      | none => none
    | _ => none
  | .index t x i => match P.underlying t with
    | some (.array n e) => match P.underlying e, P.info? e with
      | some d, some j => some (if isAggD d then .indexA n true j.size x i else if j.size = 1 then .indexA n false 1 x i else .indexA 0 false 1 x i)
      | _, _ => none
    | some .string => some (.indexStr x i)
    | _ => none
  | .extract x i => some (.extract x i)
  | .call c => match c.callee with
    | .value (.func f) => match P.funcs[f]? with
      | some fn => if fn.body.isNone || fn.name == "runtime.NumGoroutine" then none else some (.callF f c.args.toList)
      | none => none
    | .value x => some (.callV x c.args.toList)
    | .builtin .len => match c.argTypes[0]?, c.args.toList with
      | some t, [x] => match P.underlying t with
        | some (.slice _) => some (.lenS x)
        | some .string => some (.lenStr x)
        | _ => none
      | _, _ => none
    | .builtin .append => match c.argTypes.toList, c.args.toList with
      | [t, u], [s, x] => match P.underlying t, P.underlying u with
        | some (.slice e), some (.slice _) => match P.info? e with
          | some j => match j.zero with
            | some z => match cellsZ z with
              | some zs => if zs.length = j.size ∧ 0 < j.size ∧ 0 < j.bytes then some (.append j.size j.bytes zs s x) else none
              | none => none
            | none => none
          | none => none
        | some (.slice e), some .string => match P.info? e with
          | some j => match j.zero with
            | some z => match cellsZ z with
              | some zs => if j.size = 1 ∧ zs.length = 1 ∧ 0 < j.bytes then some (.appendStr j.bytes zs s x) else none
              | none => none
            | none => none
          | none => none
        | some (.slice e), some (.int _) => match P.info? e with
          | some j => match j.zero with
            | some z => match cellsZ z with
              | some zs => if zs.length = j.size ∧ 0 < j.size ∧ 0 < j.bytes then some (.appendMk j.size j.bytes zs s x) else none
              | none => none
            | none => none
          | none => none
        | _, _ => none
      | _, _ => none
    | .builtin .cap => match c.argTypes[0]?, c.args.toList with
      | some t, [x] => match P.underlying t with
        | some (.slice _) => some (.capS x)
        | _ => none
      | _, _ => none
    | .builtin .delete => match c.argTypes[0]?, c.args.toList with
      | some t, [m, k] => match mapTy P t with
        | some (ag, ks, _) => some (.mapDel ag ks m k)
        | none => none
      | _, _ => none
    | .builtin .min => some (.minmax false c.args.toList)
    | .builtin .max => some (.minmax true c.args.toList)
    | _ => none
  | .panic _ => some .bad
  | .makeInterface _ _ => some .bad
  | .makeMap _ none => some .makeMap
  | .lookup t x i ok => match mapTy P t with
    | some (ag, ks, z) => some (.lookup ok ag ks (ofConst z) x i)
    | none => none
  | .mapUpdate t m k v | .insert t m k v => match mapTy P t with
    | some (ag, ks, _) => some (.mapUpd ag ks m k v)
    | none => none
  | _ => none

/-! ### What they do -/
def aeval (g : Nat → AVal) : Operand → AVal
  | .tmp t => g t
  | .const v => ofConst v
  | .global _ => .undef
  | .func f => .func f []

inductive Res where
  | stuck
  | val (v : AVal) (σ : Store)
  | new (o : Obj) (k : Nat → AVal)
  | call (f : FuncId) (args : List AVal)
  /-- One of two: which one is not known. -/
  | both (x y : AVal)

def setRange (cs : List AVal) (off : Nat) (vs : List AVal) : List AVal := cs.take off ++ vs ++ cs.drop (off + vs.length)
def partA (agg : Bool) (sz off : Nat) (cs : List AVal) : Option AVal :=
  if agg then (if off + sz ≤ cs.length then some (.agg ((cs.drop off).take sz)) else none) else cs[off]?
def buildA (ρ : Operand → AVal) (cs : List AVal) : List (Nat × Nat × Operand) → Option (List AVal)
  | [] => some cs
  | (off, sz, x) :: r => match known (ρ x) with
    | some vs => if vs.length = sz ∧ off + sz ≤ cs.length then buildA ρ (setRange cs off vs) r else none
    | none => none
def buildRows (ρ : Operand → AVal) (sz : Nat) (xs : List (List AVal)) : List (Nat × Operand) → Option (List (List AVal))
  | [] => some xs
  | (i, x) :: r => match known (ρ x) with
    | some vs => if vs.length = sz ∧ i < xs.length then buildRows ρ sz (xs.set i vs) r else none
    | none => none

/-- A row's object, as this version of it. -/
def rowAt (σ : Store) (id ver : Nat) : Option (Bool × Nat × List (List AVal)) :=
  match σ.get id with
  | some (.row v fz sz xs) => if v = ver then some (fz, sz, xs) else none
  | _ => none

def binA (op : BinOp) : AVal → AVal → Option AVal
  | .sc (.int k a), .sc (.int k' b) => match op with
    | .shl => if 0 ≤ b then some (.sc (.int k (k.wrap (a * 2 ^ min b.toNat k.bits)))) else none
    | .shr => if 0 ≤ b then some (.sc (.int k (a.fdiv (2 ^ min b.toNat k.bits)))) else none
    | _ => if k = k' then match op with
      | .add => some (.sc (.int k (k.wrap (a + b))))
      | .sub => some (.sc (.int k (k.wrap (a - b))))
      | .mul => some (.sc (.int k (k.wrap (a * b))))
      | .quo => if b = 0 then none else some (.sc (.int k (k.wrap (a.tdiv b))))
      | .rem => if b = 0 then none else some (.sc (.int k (a.tmod b)))
      | .and => some (.sc (.int k (k.wrap (BitVec.ofInt k.bits a &&& BitVec.ofInt k.bits b).toNat)))
      | .or => some (.sc (.int k (k.wrap (BitVec.ofInt k.bits a ||| BitVec.ofInt k.bits b).toNat)))
      | .xor => some (.sc (.int k (k.wrap (BitVec.ofInt k.bits a ^^^ BitVec.ofInt k.bits b).toNat)))
      | .andNot => some (.sc (.int k (k.wrap (BitVec.ofInt k.bits a &&& ~~~ BitVec.ofInt k.bits b).toNat)))
      | .eql => some (.sc (.bool (a == b)))
      | .neq => some (.sc (.bool (a != b)))
      | .lss => some (.sc (.bool (decide (a < b))))
      | .leq => some (.sc (.bool (decide (a ≤ b))))
      | .gtr => some (.sc (.bool (decide (a > b))))
      | .geq => some (.sc (.bool (decide (a ≥ b))))
      | _ => none
      else none
  | .sc (.string s), .sc (.string t) => match op with
    | .add => if s.size + t.size ≤ 9223372036854775807 then some (.sc (.string (s ++ t))) else none
    | .eql => some (.sc (.bool (s.toList == t.toList)))
    | .neq => some (.sc (.bool (!(s.toList == t.toList))))
    | .lss => some (.sc (.bool (Op.bytesLess s.toList t.toList)))
    | .leq => some (.sc (.bool (Op.bytesLess s.toList t.toList || s.toList == t.toList)))
    | .gtr => some (.sc (.bool (!(Op.bytesLess s.toList t.toList || s.toList == t.toList))))
    | .geq => some (.sc (.bool (!(Op.bytesLess s.toList t.toList))))
    | _ => none
  | _, _ => none

def eqK : Nat → Value → Value → Option Bool
  | 0, .int k a, .int k' b => if k = k' then some (a == b) else none
  | 1, .bool a, .bool b => some (a == b)
  | 2, .string a, .string b => some (a.toList == b.toList)
  | _, _, _ => none
def eqCells : List Nat → List AVal → List AVal → Option Bool
  | [], [], [] => some true
  | k :: ks, .sc a :: x, .sc b :: y => match eqK k a b, eqCells ks x y with
    | some p, some q => some (p && q)
    | _, _ => none
  | _, _, _ => none
def eqPtrA : AVal → AVal → Option Bool
  | .nilp, .nilp => some true
  | .nilp, .ptr _ _ _ _ | .nilp, .iptr _ _ | .ptr _ _ _ _, .nilp | .iptr _ _, .nilp => some false
  | _, _ => none
def negB (neg : Bool) (b : Bool) : AVal := .sc (.bool (if neg then !b else b))

def eqSlR (σ : Store) (neg : Bool) : AVal → AVal → Res
  | .nils, .nils => .val (negB neg true) σ
  | .nils, .lst (_ :: _) | .lst (_ :: _), .nils => .val (negB neg false) σ
  | .nils, .lst [] | .lst [], .nils | .nils, .emp | .emp, .nils => .both (.sc (.bool true)) (.sc (.bool false))
  | _, _ => .stuck
def idxOf : AVal → Option Int
  | .sc (.int _ n) => some n
  | _ => none
/-- A slice expression's bounds, all in their order. -/
def loB : Option AVal → Option Int
  | none => some 0
  | some x => idxOf x
def hiB (len : Nat) : Option AVal → Option Int
  | none => some len
  | some x => idxOf x
def bounds (len : Nat) (lo hi mx : Option AVal) : Option (Nat × Nat × Option Nat) :=
  match loB lo, hiB len hi with
  | some l, some h => match mx with
    | none => if 0 ≤ l ∧ l ≤ h ∧ h ≤ len then some (l.toNat, h.toNat, none) else none
    | some x => match idxOf x with
      | some m => if hi.isSome ∧ 0 ≤ l ∧ l ≤ h ∧ h ≤ m ∧ m ≤ len then some (l.toNat, h.toNat, some m.toNat) else none
      | none => none
  | _, _ => none

def srcRows (σ : Store) (sz : Nat) : AVal → Option (List (List AVal))
  | .nils | .emp => some []
  | .lst ys => if ys.all (·.length == sz) then some ys else none
  | .sl id ver off len sz' => match rowAt σ id ver with
    | some (_, s, xs) => if s = sz ∧ sz' = sz ∧ off + len ≤ xs.length then some ((xs.drop off).take len) else none
    | none => none
  | _ => none
def bytesA (s : ByteArray) : List (List AVal) := s.data.toList.map fun b => [.sc (.int .u8 b.toNat)]
def appendA (σ : Store) (sz bytes : Nat) (s : AVal) (ys : List (List AVal)) : Res :=
  match s with
  | .nils | .emp => if ys = [] then .val s σ else if ys.length * bytes ≤ 140737488355328 ∧ ys.length ≤ 9223372036854775807 then .new (.row 0 false sz ys) (fun id => .sl id 0 0 ys.length sz) else .stuck
  | .sl id ver off len sz' => match rowAt σ id ver with
    | some (fz, s', xs) => if fz = false ∧ s' = sz ∧ sz' = sz ∧ off + len ≤ xs.length ∧ (len + ys.length) * bytes ≤ 140737488355328 ∧ len + ys.length ≤ 9223372036854775807 then
        .val (.sl id (ver + 1) 0 (len + ys.length) sz) (σ.set id (.row (ver + 1) false sz ((xs.drop off).take len ++ ys)))
      else .stuck
    | none => .stuck
  | _ => .stuck
def minmaxA (isMax : Bool) : Int → IntKind → List AVal → Option Int
  | a, _, [] => some a
  | a, k, .sc (.int k' b) :: r => if k = k' then minmaxA isMax (if isMax then (if b > a then b else a) else (if b < a then b else a)) k r else none
  | _, _, _ => none

/-- A key's cells. -/
def keyC (ag : Bool) : AVal → Option (List AVal)
  | .sc v => if ag then none else some [.sc v]
  | .agg cs => if ag then some cs else none
  | _ => none
/-- Where a key lies among a map's entries, and its value; none: it can't be told. -/
def findA (ag : Bool) (ks : List Nat) (k : List AVal) : List (AVal × AVal) → Nat → Option (Option (Nat × AVal))
  | [], _ => some none
  | (a, v) :: r, i => match keyC ag a with
    | some c => match eqCells ks k c with
      | some true => some (some (i, v))
      | some false => findA ag ks k r (i + 1)
      | none => none
    | none => none
def mapEs (σ : Store) : AVal → Option (List (AVal × AVal))
  | .nilm => some []
  | .map id => match σ.get id with
    | some (.mp es) => some es
    | _ => none
  | _ => none
/-- The key's place in a map's entries, if all can be told. -/
def lookK (ag : Bool) (ks : List Nat) (k : AVal) (es : List (AVal × AVal)) : Option (Option (Nat × AVal)) :=
  match keyC ag k with
  | some kc => if (eqCells ks kc kc).isSome then findA ag ks kc es 0 else none
  | none => none
def lookV (ok : Bool) (z : AVal) : Option (Nat × AVal) → AVal
  | some (_, v) => if ok then .tup [v, .sc (.bool true)] else v
  | none => if ok then .tup [z, .sc (.bool false)] else z
def lookR (σ : Store) (ok ag : Bool) (ks : List Nat) (z m k : AVal) : Res :=
  match mapEs σ m with
  | some es => match lookK ag ks k es with
    | some r => .val (lookV ok z r) σ
    | none => .stuck
  | none => .stuck
def updEs (es : List (AVal × AVal)) (k v : AVal) : Option (Nat × AVal) → List (AVal × AVal)
  | some (i, _) => es.set i (k, v)
  | none => es ++ [(k, v)]
def updR (σ : Store) (ag : Bool) (ks : List Nat) (m k v : AVal) : Res :=
  match m with
  | .map id => match σ.get id with
    | some (.mp es) => match lookK ag ks k es with
      | some r => .val (.tup []) (σ.set id (.mp (updEs es k v r)))
      | none => .stuck
    | _ => .stuck
  | _ => .stuck
def delEs (es : List (AVal × AVal)) : Option (Nat × AVal) → List (AVal × AVal)
  | some (i, _) => es.eraseIdx i
  | none => es
def delR (σ : Store) (ag : Bool) (ks : List Nat) (m k : AVal) : Res :=
  match m with
  | .map id => match σ.get id with
    | some (.mp es) => match lookK ag ks k es with
      | some r => .val (.tup []) (σ.set id (.mp (delEs es r)))
      | none => .stuck
    | _ => .stuck
  | _ => .stuck
def mkR (σ : Store) (sz bytes : Nat) (zs : List AVal) (s n : AVal) : Res :=
  match s, n with
  | .nils, .sc (.int _ n) => if 0 ≤ n ∧ n ≤ 9223372036854775807 ∧ n.toNat * bytes ≤ 140737488355328 then
      (if n = 0 then .val .nils σ else .new (.row 0 false sz (List.replicate n.toNat zs)) (fun id => .sl id 0 0 n.toNat sz)) else .stuck
  | _, _ => .stuck

def opt (σ : Store) : Option AVal → Res
  | some v => .val v σ
  | none => .stuck

def stepA (ρ : Operand → AVal) (σ : Store) : AOp → Res
  | .move x => .val (ρ x) σ
  | .pick c a b => match ρ c with
    | .sc (.bool t) => .val (if t then ρ a else ρ b) σ
    | _ => .stuck
  | .alloc zs => .new (.row 0 false zs.length [zs]) (fun id => .ptr id 0 0 0)
  | .box x => match known (ρ x) with
    | some cs => .new (.row 0 false cs.length [cs]) (fun id => .ptr id 0 0 0)
    | none => .stuck
  | .build zs ps => opt σ ((buildA ρ zs ps).map .agg)
  | .buildSlice sz len zs ps => match buildRows ρ sz (List.replicate len zs) ps with
    | some xs => .new (.row 0 false sz xs) (fun id => .sl id 0 0 len sz)
    | none => .stuck
  | .load agg sz x => match ρ x with
    | .ptr id ver i o => match rowAt σ id ver with
      | some (_, _, xs) => match xs[i]? with
        | some c => opt σ (partA agg sz o c)
        | none => .stuck
      | none => .stuck
    | .iptr cs o => opt σ (partA agg sz o cs)
    | _ => .stuck
  | .store sz x v => match ρ x with
    | .ptr id ver i o => match rowAt σ id ver, known (ρ v) with
      | some (false, s, xs), some vs => match xs[i]? with
        | some c => if vs.length = sz ∧ o + sz ≤ c.length then .val (.tup []) (σ.set id (.row ver false s (xs.set i (setRange c o vs)))) else .stuck
        | none => .stuck
      | _, _ => .stuck
    | _ => .stuck
  | .nilCheck x => match ρ x with
    | .ptr id ver i o => .val (.ptr id ver i o) σ
    | .iptr cs o => .val (.iptr cs o) σ
    | _ => .stuck
  | .bin op x y => opt σ (binA op (ρ x) (ρ y))
  | .eqBool neg x y => match ρ x, ρ y with
    | .sc (.bool a), .sc (.bool b) => .val (negB neg (a == b)) σ
    | _, _ => .stuck
  | .eqPtr neg x y => opt σ ((eqPtrA (ρ x) (ρ y)).map (negB neg))
  | .eqSl neg x y => eqSlR σ neg (ρ x) (ρ y)
  | .eqAgg neg ks x y => match ρ x, ρ y with
    | .agg a, .agg b => opt σ ((eqCells ks a b).map (negB neg))
    | _, _ => .stuck
  | .un op x => match op, ρ x with
    | .not, .sc (.bool b) => .val (.sc (.bool !b)) σ
    | .neg, .sc (.int k n) => .val (.sc (.int k (k.wrap (0 - n)))) σ
    | _, _ => .stuck
  | .convInt k x => match ρ x with
    | .sc (.int _ n) => .val (.sc (.int k (k.wrap n))) σ
    | _ => .stuck
  | .convStr x => match ρ x with
    | .sc (.string s) => .val (.sc (.string s)) σ
    | _ => .stuck
  | .makeFunc f caps => .val (.func f (caps.map ρ)) σ
  | .makeSlice sz bytes zs l c => match ρ l, ρ c with
    | .sc (.int k n), .sc (.int k' m) => if n = m ∧ 0 ≤ n ∧ n ≤ 9223372036854775807 ∧ n.toNat * bytes ≤ 281474976710656 then .new (.row 0 false sz (List.replicate n.toNat zs)) (fun id => .sl id 0 0 n.toNat sz) else .stuck
    | _, _ => .stuck
  | .slice sz x lo hi mx => match ρ x with
    | .nils => match bounds 0 (lo.map ρ) (hi.map ρ) (mx.map ρ) with
      | some _ => .val .nils σ
      | none => .stuck
    | .lst xs => match bounds xs.length (lo.map ρ) (hi.map ρ) (mx.map ρ) with
      | some (l, h, none) => if xs.all (·.length == sz) then .val (.lst ((xs.drop l).take (h - l))) σ else .stuck
      | some (l, h, some m) => if m = l then .val .emp σ else .stuck
      | none => .stuck
    | .sl id ver off len sz' => match bounds len (lo.map ρ) (hi.map ρ) (mx.map ρ) with
      | some (l, h, none) => if sz' = sz then .val (.sl id ver (off + l) (h - l) sz) σ else .stuck
      | some (l, h, some m) => if m = l then .val .emp σ else .stuck
      | none => .stuck
    | _ => .stuck
  | .sliceStr x lo hi => match ρ x with
    | .sc (.string s) => match bounds s.size (lo.map ρ) (hi.map ρ) none with
      | some (l, h, _) => .val (.sc (.string (s.extract l h))) σ
      | none => .stuck
    | _ => .stuck
  | .fieldAddr off x => match ρ x with
    | .ptr id ver i o => .val (.ptr id ver i (o + off)) σ
    | .iptr cs o => .val (.iptr cs (o + off)) σ
    | _ => .stuck
  | .field agg sz off x => match ρ x with
    | .agg cs => opt σ (partA agg sz off cs)
    | _ => .stuck
  | .indexAddrS sz x i => match ρ x, ρ i with
    | .sl id ver off len sz', .sc (.int _ n) => if sz' = sz ∧ 0 ≤ n ∧ n < len then .val (.ptr id ver (off + n.toNat) 0) σ else .stuck
    | .lst xs, .sc (.int _ n) => if 0 ≤ n then match xs[n.toNat]? with
      | some c => if c.length = sz then .val (.iptr c 0) σ else .stuck
      | none => .stuck
      else .stuck
    | _, _ => .stuck
  | .indexAddrA len sz x i => match ρ x, ρ i with
    | .ptr id ver e o, .sc (.int _ n) => if 0 ≤ n ∧ n < len then .val (.ptr id ver e (o + n.toNat * sz)) σ else .stuck
    | .iptr cs o, .sc (.int _ n) => if 0 ≤ n ∧ n < len then .val (.iptr cs (o + n.toNat * sz)) σ else .stuck
    | _, _ => .stuck
  | .indexA len agg sz x i => match ρ x, ρ i with
    | .agg cs, .sc (.int _ n) => if 0 ≤ n ∧ n < len then opt σ (partA agg sz (n.toNat * sz) cs) else .stuck
    | _, _ => .stuck
  | .indexStr x i => match ρ x, ρ i with
    | .sc (.string s), .sc (.int _ n) => if 0 ≤ n then match s[n.toNat]? with
      | some b => .val (.sc (.int .u8 b.toNat)) σ
      | none => .stuck
      else .stuck
    | _, _ => .stuck
  | .extract x i => match ρ x with
    | .tup vs => opt σ vs[i]?
    | _ => .stuck
  | .callF f args => .call f (args.map ρ)
  | .callV x args => match ρ x with
    | .func f caps => .call f (args.map ρ ++ caps)
    | _ => .stuck
  | .lenS x => match ρ x with
    | .nils | .emp => .val (.sc (.int .i64 0)) σ
    | .lst xs => .val (.sc (.int .i64 xs.length)) σ
    | .sl _ _ _ len _ => .val (.sc (.int .i64 len)) σ
    | _ => .stuck
  | .lenStr x => match ρ x with
    | .sc (.string s) => .val (.sc (.int .i64 s.size)) σ
    | _ => .stuck
  | .append sz bytes _ s x => match srcRows σ sz (ρ x) with
    | some ys => appendA σ sz bytes (ρ s) ys
    | none => .stuck
  | .appendStr bytes _ s x => match ρ x with
    | .sc (.string t) => appendA σ 1 bytes (ρ s) (bytesA t)
    | _ => .stuck
  | .minmax isMax args => match args.map ρ with
    | .sc (.int k a) :: r => opt σ ((minmaxA isMax a k r).map fun n => .sc (.int k n))
    | _ => .stuck
  | .bad => .stuck
  | .makeMap => .new (.mp []) .map
  | .lookup ok ag ks z x i => lookR σ ok ag ks z (ρ x) (ρ i)
  | .mapUpd ag ks m k v => updR σ ag ks (ρ m) (ρ k) (ρ v)
  | .mapDel ag ks m k => delR σ ag ks (ρ m) (ρ k)
  | .capS x => match ρ x with
    | .nils => .val (.sc (.int .i64 0)) σ
    | _ => .stuck
  | .appendMk sz bytes zs s n => mkR σ sz bytes zs (ρ s) (ρ n)

end Go.Ab

/- Each abstract operation is what the model's operation does: part 1. -/
set_option linter.unusedVariables false
set_option linter.unusedSimpArgs false
namespace Go.Ab

def StepOk (P : Program) (o : Oper) (a : Act) (w : World) (α : Asg) (Im : Nat → Prop) (σ : Store) : Res → Prop
  | .stuck => True
  | .val v σ' => ∃ n w' α', (execOp a.eval o).run P w = .ok n w' ∧ ((∃ cv, n = .value cv ∧ Rel α' Im w' v cv) ∨ (n = .skip ∧ v = .tup [])) ∧ Sim α' Im σ' w' ∧ Step α Im σ w α' Im σ' w'
  | .new ob k => ∀ id, σ.get id = none → (∀ v, α id v = none) → ∃ cv w' α', (execOp a.eval o).run P w = .ok (.value cv) w' ∧ Rel α' Im w' (k id) cv ∧ Sim α' Im (σ.set id ob) w' ∧ Step α Im σ w α' Im (σ.set id ob) w'
  | .both x y => ∃ cv, (execOp a.eval o).run P w = .ok (.value cv) w ∧ (Rel α Im w x cv ∨ Rel α Im w y cv)
  | .call f args => ∃ cargs : Array Value, (execOp a.eval o).run P w = .ok (.enter f cargs) w ∧ cargs.size = args.length ∧ ∀ (i : Nat) x v, args[i]? = some x → cargs[i]? = some v → Rel α Im w x v

section
variable {P : Program} {o : Oper} {a : Act} {w : World} {α : Asg} {Im : Nat → Prop} {σ : Store} {ρ : Operand → AVal}

theorem ok_val {v : AVal} {cv : Value} (hs : Sim α Im σ w) (hr : (execOp a.eval o).run P w = .ok (.value cv) w) (hv : Rel α Im w v cv) : StepOk P o a w α Im σ (.val v σ) :=
  ⟨_, w, α, hr, .inl ⟨cv, rfl, hv⟩, hs, Step.refl _ _ _ _⟩

theorem rel_ofCell (v : Value) : Rel α Im w (ofCell v) v := by
  unfold ofCell
  split
  · exact .nilp
  · exact .nils
  · exact .nilm
  · exact .nilf
  · split
    · rename_i h; exact .sc _ h
    · exact .undef _

theorem rel_ofConst (v : Value) : Rel α Im w (ofConst v) v := by
  unfold ofConst
  split
  · rename_i cs
    split
    · rename_i h
      refine .agg _ _ (by simp) (fun i v hv => ?_) (fun i x v hx hv => ?_)
      · obtain ⟨hi, rfl⟩ := Array.getElem?_eq_some_iff.1 hv
        exact Array.all_eq_true.1 h i hi
      · simp only [List.getElem?_map, Array.getElem?_toList, hv, Option.map_some, Option.some.injEq] at hx
        subst hx
        exact rel_ofCell v
    · exact .undef _
  · rename_i vs
    split
    · rename_i h
      exact .tup _ _ (by simpa using h) (fun i x v hx hv => by simp at hx)
    · exact .undef _
  · exact rel_ofCell _

/-- What is known of a value are its cells. -/
theorem known_cells {x : AVal} {v : Value} {cs : List AVal} (h : Rel α Im w x v) (hk : known x = some cs) :
    v.cells.size = cs.length ∧ (∀ u ∈ v.cells, u.oneCell' = true) ∧ ∀ (i : Nat) y u, cs[i]? = some y → v.cells[i]? = some u → Rel α Im w y u := by
  have single : ∀ {x : AVal} {v : Value}, v.cells = #[v] → v.oneCell' = true → Rel α Im w x v → cs = [x] → v.cells.size = cs.length ∧ (∀ u ∈ v.cells, u.oneCell' = true) ∧ ∀ (i : Nat) y u, cs[i]? = some y → v.cells[i]? = some u → Rel α Im w y u := by
    intro x v hc h1 hr he
    subst he
    rw [hc]
    refine ⟨rfl, fun u hu => by simp at hu; exact hu ▸ h1, fun i y u hy hu => ?_⟩
    cases i with
    | zero => simp at hy hu; exact hy ▸ hu ▸ hr
    | succ i => simp at hy
  cases h with
  | undef => simp [known] at hk
  | tup => simp [known] at hk
  | agg cs' vs hs h1 hr =>
    simp only [known, Option.some.injEq] at hk
    subst hk
    exact ⟨hs, fun u hu => by obtain ⟨i, hi, rfl⟩ := Array.mem_iff_getElem.1 hu; exact h1 i _ (Array.getElem?_eq_getElem hi), hr⟩
  | sc v h =>
    simp only [known, Option.some.injEq] at hk
    exact single (by cases v <;> simp_all [scalar, Value.cells]) (by cases v <;> simp_all [scalar, Value.oneCell']) (.sc v h) hk.symm
  | nilp => simp only [known, Option.some.injEq] at hk; exact single rfl rfl .nilp hk.symm
  | ptr id ver i o l h => simp only [known, Option.some.injEq] at hk; exact single rfl rfl (.ptr id ver i o l h) hk.symm
  | iptr cs o b base f him hc hr => simp only [known, Option.some.injEq] at hk; exact single rfl rfl (.iptr cs o b base f him hc hr) hk.symm
  | nils => simp only [known, Option.some.injEq] at hk; exact single rfl rfl .nils hk.symm
  | lst0 a cap => simp only [known, Option.some.injEq] at hk; exact single rfl rfl (.lst0 a cap) hk.symm
  | lst xs b base sz cap f him hcap hsz hc hr => simp only [known, Option.some.injEq] at hk; exact single rfl rfl (.lst xs b base sz cap f him hcap hsz hc hr) hk.symm
  | emp a => simp only [known, Option.some.injEq] at hk; exact single rfl rfl (.emp a) hk.symm
  | sl0 id ver off l a h => simp only [known, Option.some.injEq] at hk; exact single rfl rfl (.sl0 id ver off l a h) hk.symm
  | sl id ver off len cap l h hcap hN => simp only [known, Option.some.injEq] at hk; exact single rfl rfl (.sl id ver off len cap l h hcap hN) hk.symm
  | nilm => simp only [known, Option.some.injEq] at hk; exact single rfl rfl .nilm hk.symm
  | map id l h => simp only [known, Option.some.injEq] at hk; exact single rfl rfl (.map id l h) hk.symm
  | nilf => simp only [known, Option.some.injEq] at hk; exact single rfl rfl .nilf hk.symm
  | func f cap vs hs hr => simp only [known, Option.some.injEq] at hk; exact single rfl rfl (.func f cap vs hs hr) hk.symm

/-! ### A new row -/
def Asg.upd (α : Asg) (id ver : Nat) (l : Loc) : Asg := fun i v => if i = id ∧ v = ver then some l else α i v
theorem upd_self (α : Asg) (id ver : Nat) (l : Loc) : Asg.upd α id ver l id ver = some l := by simp [Asg.upd]
theorem upd_ne (α : Asg) {id ver i v : Nat} (l : Loc) (h : ¬(i = id ∧ v = ver)) : Asg.upd α id ver l i v = α i v := by simp [Asg.upd, h]
theorem le_upd (α : Asg) {id ver : Nat} (l : Loc) (h : α id ver = none) : Asg.le α (Asg.upd α id ver l) := fun i v l' hl => by
  by_cases e : i = id ∧ v = ver
  · obtain ⟨rfl, rfl⟩ := e; rw [h] at hl; cases hl
  · rw [upd_ne _ _ e]; exact hl
theorem fin_upd {α : Asg} (h : ∃ N, ∀ i, N ≤ i → ∀ v, α i v = none) (id ver : Nat) (l : Loc) : ∃ N, ∀ i, N ≤ i → ∀ v, Asg.upd α id ver l i v = none := by
  obtain ⟨N, hN⟩ := h
  refine ⟨max N (id + 1), fun i hi v => ?_⟩
  rw [upd_ne _ _ (by omega)]
  exact hN i (by omega) v

theorem heap_alloc_self (w : World) (ob : Go.Obj) : (w.alloc ob).heap[w.heap.size]? = some ob := by
  show (w.heap.push ob)[w.heap.size]? = some ob
  simp
theorem heap_alloc_lt (w : World) (ob : Go.Obj) {b : Nat} (h : b < w.heap.size) : (w.alloc ob).heap[b]? = w.heap[b]? := by
  show (w.heap.push ob)[b]? = _
  rw [Array.getElem?_push, if_neg (by omega)]

/-- A block of cells that is new: an object of the store. w0: the world ahead, draws let by. -/
theorem add_row (hs : Sim α Im σ w) {w0 : World} (hh : w0.heap = w.heap) (hos : w0.os = w.os) (htape : w0.tape = w.tape) (hout : w0.output = w.output ∧ w.drawn ≤ w0.drawn) {id sz : Nat} {xs : List (List AVal)} {arr : Array Value} (e : TypeId)
    (hid : σ.get id = none) (hα : ∀ v, α id v = none) (hsize : xs.length * sz ≤ arr.size)
    (hc : ∀ (i : Nat) (x : List AVal), xs[i]? = some x → x.length = sz ∧ ∀ (j : Nat) (y : AVal), x[j]? = some y → ∃ u, arr[i * sz + j]? = some u ∧ u.oneCell' = true ∧ Rel α Im w y u) :
    ∃ β l, Asg.le α β ∧ β id 0 = some l ∧ l.b = w.heap.size ∧ l.base = 0 ∧ l.sz = sz ∧ l.N = arr.size ∧ Sim β Im (σ.set id (.row 0 false sz xs)) (w0.alloc (.cells arr e)) ∧ Step α Im σ w β Im (σ.set id (.row 0 false sz xs)) (w0.alloc (.cells arr e)) := by
  have hle := le_upd α (⟨w.heap.size, 0, sz, arr.size⟩ : Loc) (hα 0)
  have hnew : (w0.alloc (.cells arr e)).heap[w.heap.size]? = some (.cells arr e) := by rw [← hh]; exact heap_alloc_self _ _
  have hold : ∀ b, b < w.heap.size → (w0.alloc (.cells arr e)).heap[b]? = w.heap[b]? := fun b hb => by rw [heap_alloc_lt _ _ (by rw [hh]; exact hb), hh]
  refine ⟨Asg.upd α id 0 ⟨w.heap.size, 0, sz, arr.size⟩, ⟨w.heap.size, 0, sz, arr.size⟩, hle, upd_self _ _ _ _, rfl, rfl, rfl, rfl, ?_⟩
  refine hs.add hid hle (fun i hi v => upd_ne _ _ (fun e => hi e.1)) (fin_upd hs.fin _ _ _) hos htape hout (by simp [hh]) hold ?_ (l' := ⟨w.heap.size, 0, sz, arr.size⟩) (upd_self _ _ _ _) (Nat.le_refl _)
  refine ⟨_, arr, e, (0, 0), upd_self _ _ _ _, rfl, hnew, rfl, by simpa using hsize, fun o _ => by simp, fun i x hx => ?_, fun h => (by cases h), fun _ hb => ?_, fun v hv => ?_⟩
  · obtain ⟨h1, h2⟩ := hc i x hx
    refine ⟨h1, fun j y hy => ?_⟩
    obtain ⟨u, h3, h4, h5⟩ := h2 j y hy
    exact ⟨u, by simpa using h3, h4, h5.mono hle (fun _ h => h) (fun b hb => hold b (hs.im b hb))⟩
  · exact Nat.lt_irrefl _ (hs.im _ hb)
  · rw [upd_ne _ _ (by omega)]; exact hα v

theorem ok_new {id sz : Nat} {xs : List (List AVal)} {arr : Array Value} {e : TypeId} {k : Nat → AVal} {cv : Value} (hs : Sim α Im σ w) {w0 : World} (hh : w0.heap = w.heap) (hos : w0.os = w.os) (htape : w0.tape = w.tape) (hout : w0.output = w.output ∧ w.drawn ≤ w0.drawn)
    (hid : σ.get id = none) (hα : ∀ v, α id v = none) (hsize : xs.length * sz ≤ arr.size)
    (hc : ∀ (i : Nat) (x : List AVal), xs[i]? = some x → x.length = sz ∧ ∀ (j : Nat) (y : AVal), x[j]? = some y → ∃ u, arr[i * sz + j]? = some u ∧ u.oneCell' = true ∧ Rel α Im w y u)
    (hrun : (execOp a.eval o).run P w = .ok (.value cv) (w0.alloc (.cells arr e)))
    (hk : ∀ (β : Asg) (l : Loc) (w' : World), β id 0 = some l → l.b = w.heap.size → l.base = 0 → l.sz = sz → l.N = arr.size → Rel β Im w' (k id) cv) :
    ∃ cv w' α', (execOp a.eval o).run P w = .ok (.value cv) w' ∧ Rel α' Im w' (k id) cv ∧ Sim α' Im (σ.set id (.row 0 false sz xs)) w' ∧ Step α Im σ w α' Im (σ.set id (.row 0 false sz xs)) w' := by
  obtain ⟨β, l, h1, h2, h3, h4, h5, h6, h7, h8⟩ := add_row hs hh hos htape hout e hid hα hsize hc
  exact ⟨cv, _, β, hrun, hk β l _ h2 h3 h4 h5 h6, h7, h8⟩

/-! ### The operations -/
theorem move_ok (hs : Sim α Im σ w) (hρ : ∀ x, Rel α Im w (ρ x) (a.eval x)) {x : Operand} (ho : o.op = .move x ∨ o.op = .assign x) : StepOk P o a w α Im σ (stepA ρ σ (.move x)) := by
  refine ok_val hs ?_ (hρ x)
  rcases ho with ho | ho <;> simp [execOp, ho]

theorem pick_ok (hs : Sim α Im σ w) (hρ : ∀ x, Rel α Im w (ρ x) (a.eval x)) {c x y : Operand} (ho : o.op = .pick c x y) : StepOk P o a w α Im σ (stepA ρ σ (.pick c x y)) := by
  simp only [stepA]
  split
  · rename_i t hc
    have h := hρ c
    rw [hc] at h
    generalize hv : a.eval c = vc at h
    cases h with
    | sc v h =>
      refine ok_val hs (cv := if t then a.eval x else a.eval y) (by simp [execOp, ho, hv, asBool]) ?_
      cases t
      · exact hρ y
      · exact hρ x
  · trivial

end
end Go.Ab

/- Each abstract operation is what the model's operation does: part 2. -/
set_option linter.unusedSimpArgs false
set_option linter.unnecessarySimpa false
set_option linter.unusedVariables false
set_option linter.unusedSimpArgs false
namespace Go.Ab
section
variable {P : Program} {o : Oper} {a : Act} {w : World} {α : Asg} {Im : Nat → Prop} {σ : Store} {ρ : Operand → AVal}

theorem cellsZ_spec {z : Value} {zs : List AVal} (h : cellsZ z = some zs) : zs.length = z.cells.size ∧ ∀ (j : Nat) (y : AVal), zs[j]? = some y → ∃ u, z.cells[j]? = some u ∧ u.oneCell' = true ∧ Rel α Im w y u := by
  unfold cellsZ at h
  split at h
  · rename_i hall
    injection h with h
    subst h
    refine ⟨by simp, fun j y hy => ?_⟩
    simp only [List.getElem?_map, Array.getElem?_toList] at hy
    cases hu : z.cells[j]? with
    | none => rw [hu] at hy; cases hy
    | some u =>
      rw [hu] at hy
      injection hy with hy
      subst hy
      obtain ⟨hj, he⟩ := Array.getElem?_eq_some_iff.1 hu
      exact ⟨u, rfl, he ▸ Array.all_eq_true.1 hall j hj, rel_ofCell u⟩
  · cases h

theorem run_zeroValue {t : TypeId} {i : TypeInfo} {z : Value} (hi : P.info? t = some i) (hz : i.zero = some z) (w : World) : (zeroValue t).run P w = .ok z w := by
  simp [zeroValue, typeInfo, hi, hz]

theorem run_sizeOf {t : TypeId} {i : TypeInfo} (hi : P.info? t = some i) (w : World) : (sizeOf t).run P w = .ok i.size w := by
  simp [sizeOf, typeInfo, hi]

theorem alloc_ok (hs : Sim α Im σ w) {t : TypeId} {i : TypeInfo} {z : Value} {zs : List AVal} (ho : o.op = .alloc t) (hi : P.info? t = some i) (hz : i.zero = some z) (hc : cellsZ z = some zs) : StepOk P o a w α Im σ (stepA ρ σ (.alloc zs)) := by
  intro id hid hα
  have hsp := cellsZ_spec (α := α) (Im := Im) (w := w) hc
  refine ok_new hs rfl rfl rfl ⟨rfl, Nat.le_refl _⟩ hid hα (P := P) (o := o) (a := a) (k := fun id => .ptr id 0 0 0) (sz := zs.length) (xs := [zs]) (arr := z.cells) (e := t) (by simp [hsp.1]) (fun i x hx => ?_) (cv := .pointer (some ⟨w.heap.size, 0, none⟩)) ?_ (fun β l w' h1 h2 h3 h4 h5 => ?_)
  · cases i with
    | zero =>
      simp at hx
      subst hx
      exact ⟨rfl, fun j y hy => by simpa using hsp.2 j y hy⟩
    | succ i => simp at hx
  · simp [execOp, ho, Instr.alloc, run_zeroValue hi hz, newVar, newRow]
  · have := Rel.ptr (Im := Im) (w := w') id 0 0 0 l h1
    simpa [h2, h3] using this

theorem box_ok (hs : Sim α Im σ w) (hρ : ∀ x, Rel α Im w (ρ x) (a.eval x)) {t : TypeId} {x : Operand} (ho : o.op = .box t x) : StepOk P o a w α Im σ (stepA ρ σ (.box x)) := by
  simp only [stepA]
  split
  · rename_i cs hk
    obtain ⟨k1, k2, k3⟩ := known_cells (hρ x) hk
    intro id hid hα
    refine ok_new hs rfl rfl rfl ⟨rfl, Nat.le_refl _⟩ hid hα (P := P) (o := o) (a := a) (k := fun id => .ptr id 0 0 0) (sz := cs.length) (xs := [cs]) (arr := (a.eval x).cells) (e := t) (by simp [k1]) (fun i y hy => ?_) (cv := .pointer (some ⟨w.heap.size, 0, none⟩)) ?_ (fun β l w' h1 h2 h3 h4 h5 => ?_)
    · cases i with
      | zero =>
        simp at hy
        subst hy
        refine ⟨rfl, fun j y hy => ?_⟩
        have hj : j < (a.eval x).cells.size := by rw [k1]; exact (List.getElem?_eq_some_iff.1 hy).1
        exact ⟨_, by simpa using Array.getElem?_eq_getElem hj, k2 _ (Array.getElem_mem hj), k3 j y _ hy (Array.getElem?_eq_getElem hj)⟩
      | succ i => simp at hy
    · simp [execOp, ho, Instr.box, newVar, newRow]
    · have := Rel.ptr (Im := Im) (w := w') id 0 0 0 l h1
      simpa [h2, h3] using this
  · trivial

/-! ### Reading -/
/-- A row's cells, as the world has them. -/
theorem rowAt_spec (hs : Sim α Im σ w) {id ver : Nat} {fz : Bool} {sz : Nat} {xs : List (List AVal)} {l : Loc} (hr : rowAt σ id ver = some (fz, sz, xs)) (hl : α id ver = some l) :
    σ.get id = some (.row ver fz sz xs) ∧ l.sz = sz ∧ l.base + xs.length * sz ≤ l.N ∧ (∀ (i : Nat) (x : List AVal), xs[i]? = some x → x.length = sz ∧ ∀ (j : Nat) (y : AVal), x[j]? = some y → ∃ u, w.cell? ⟨l.b, l.base + i * sz + j, none⟩ = some u ∧ u.oneCell' = true ∧ Rel α Im w y u) ∧
      (∀ off, off < l.N → w.frozen? ⟨l.b, off, none⟩ = false) ∧ (∀ off, off < l.N → (w.cell? ⟨l.b, off, none⟩).isSome = true) ∧ ∃ arr e fr, w.heap[l.b]? = some (.cells arr e fr) ∧ arr.size = l.N := by
  unfold rowAt at hr
  split at hr
  · rename_i v fz' sz' xs' hg
    split at hr
    · rename_i hv
      simp only [Option.some.injEq, Prod.mk.injEq] at hr
      obtain ⟨rfl, rfl, rfl⟩ := hr
      subst hv
      obtain ⟨l', arr, e, fr, h1, h2, h3, h4, h5, h6, h7, _⟩ := hs.obj id _ hg
      rw [hl] at h1
      obtain rfl := Option.some.inj h1
      refine ⟨hg, h2, h5, fun i x hx => ?_, fun off hoff => ?_, fun off hoff => ?_, arr, e, fr, h3, h4⟩
      · obtain ⟨g1, g2⟩ := h7 i x hx
        refine ⟨g1, fun j y hy => ?_⟩
        obtain ⟨u, g3, g4, g5⟩ := g2 j y hy
        exact ⟨u, by simp [World.cell?, h3, g3], g4, g5⟩
      · have := h6 off hoff
        simp only [World.frozen?, h3]
        simp only [not_and] at this
        simp
        omega
      · simp [World.cell?, h3, Array.getElem?_eq_getElem (show off < arr.size by omega)]
    · cases hr
  · cases hr

/-- Cells that are there are read. -/
theorem run_loadVar_agg {t : TypeId} {d : TypeDesc} {i : TypeInfo} (hd : P.underlying t = some d) (ha : isAggD d = true) (hi : P.info? t = some i) (b off : Nat) (f : Nat → Value)
    (h : ∀ j, j < i.size → w.cell? ⟨b, off + j, none⟩ = some (f j)) : (loadVar t ⟨b, off, none⟩).run P w = .ok (.agg ((List.range i.size).map f).toArray) w := by
  have hl := run_loadCells (P := P) w ⟨b, off, none⟩ i.size f (fun j hj => by rw [Addr.add_lit]; exact h j hj)
  cases d <;> simp [isAggD] at ha <;> simp [loadVar, isAgg, run_underlying hd, run_sizeOf hi, hl]

theorem run_loadVar_one {t : TypeId} {d : TypeDesc} (hd : P.underlying t = some d) (ha : isAggD d = false) (b off : Nat) (v : Value)
    (h : w.cell? ⟨b, off, none⟩ = some v) : (loadVar t ⟨b, off, none⟩).run P w = .ok v w := by
  cases d <;> simp [isAggD] at ha <;> simp [loadVar, isAgg, run_underlying hd, h]

/-- partA of cells that the world has. -/
theorem load_part (hs : Sim α Im σ w) {t : TypeId} {d : TypeDesc} {i : TypeInfo} (hd : P.underlying t = some d) (hi : P.info? t = some i) {b base k : Nat} {cs : List AVal} {v : AVal}
    (hc : ∀ (j : Nat) (y : AVal), cs[j]? = some y → ∃ u, w.cell? ⟨b, base + j, none⟩ = some u ∧ u.oneCell' = true ∧ Rel α Im w y u)
    (hp : partA (isAggD d) (if isAggD d then i.size else 1) k cs = some v) : ∃ cv, (loadVar t ⟨b, base + k, none⟩).run P w = .ok cv w ∧ Rel α Im w v cv := by
  by_cases ha : isAggD d = true
  · rw [ha] at hp
    simp only [partA, if_true] at hp
    split at hp
    · rename_i hle
      injection hp with hp
      subst hp
      have hf : ∀ j, j < i.size → ∃ u, w.cell? ⟨b, base + k + j, none⟩ = some u ∧ u.oneCell' = true ∧ ∀ y, cs[k + j]? = some y → Rel α Im w y u := fun j hj => by
        have hlt : k + j < cs.length := by omega
        obtain ⟨u, h1, h2, h3⟩ := hc (k + j) _ (List.getElem?_eq_getElem hlt)
        exact ⟨u, by rw [Nat.add_assoc]; exact h1, h2, fun y hy => by rw [List.getElem?_eq_getElem hlt] at hy; exact (Option.some.inj hy) ▸ h3⟩
      let f : Nat → Value := fun j => (w.cell? ⟨b, base + k + j, none⟩).getD default
      have hff : ∀ j, j < i.size → w.cell? ⟨b, base + k + j, none⟩ = some (f j) := fun j hj => by
        obtain ⟨u, h1, _⟩ := hf j hj
        simp [f, h1]
      refine ⟨_, run_loadVar_agg hd ha hi b (base + k) f hff, .agg _ _ (by simp; omega) (fun j v hv => ?_) (fun j x v hx hv => ?_)⟩
      · have hj : j < i.size := by
          have := (Array.getElem?_eq_some_iff.1 hv).1
          simpa using this
        obtain ⟨u, h1, h2, _⟩ := hf j hj
        simp [hj] at hv
        subst hv
        rw [hff j hj] at h1
        exact (Option.some.inj h1) ▸ h2
      · have hj : j < i.size := by
          have := (Array.getElem?_eq_some_iff.1 hv).1
          simpa using this
        obtain ⟨u, h1, h2, h3⟩ := hf j hj
        simp [hj] at hv
        subst hv
        rw [hff j hj] at h1
        have hx' : cs[k + j]? = some x := by simpa [List.getElem?_take, hj, List.getElem?_drop] using hx
        exact (Option.some.inj h1) ▸ h3 x hx'
    · cases hp
  · have ha' : isAggD d = false := by simpa using ha
    rw [ha'] at hp
    simp only [partA] at hp
    obtain ⟨u, h1, h2, h3⟩ := hc k v (by simpa using hp)
    exact ⟨u, run_loadVar_one hd ha' b (base + k) u h1, h3⟩

theorem load_ok (hs : Sim α Im σ w) (hρ : ∀ x, Rel α Im w (ρ x) (a.eval x)) {t : TypeId} {d : TypeDesc} {i : TypeInfo} {x : Operand} (ho : o.op = .load t x) (hd : P.underlying t = some d) (hi : P.info? t = some i) :
    StepOk P o a w α Im σ (stepA ρ σ (.load (isAggD d) (if isAggD d then i.size else 1) x)) := by
  have hx := hρ x
  simp only [stepA]
  split
  · rename_i id ver e k hp
    rw [hp] at hx
    generalize hv : a.eval x = vx at hx
    cases hx with
    | ptr _ _ _ _ l hl =>
      split
      · rename_i q fz xs hr
        obtain ⟨g1, g2, g3, g4, g5, g6⟩ := rowAt_spec hs hr hl
        split
        · rename_i c hc
          unfold opt
          split
          · rename_i v hp
            obtain ⟨h1, h2⟩ := g4 e c hc
            obtain ⟨cv, h3, h4⟩ := load_part hs hd hi (b := l.b) (base := l.base + e * l.sz) (cs := c) (k := k) (fun j y hy => by rw [g2]; exact h2 j y hy) hp
            exact ok_val hs (by simp [execOp, ho, hv, Instr.loadAt, Instr.sureAddr, h3]) h4
          · trivial
        · trivial
      · trivial
  · rename_i cs k hp
    rw [hp] at hx
    generalize hv : a.eval x = vx at hx
    cases hx with
    | iptr _ _ b base f him hc hr =>
      unfold opt
      split
      · rename_i v hp
        obtain ⟨cv, h3, h4⟩ := load_part hs hd hi (b := b) (base := base) (cs := cs) (k := k) (fun j y hy => ⟨_, (hc j y hy).1, (hc j y hy).2, (hr j y hy).lift⟩) hp
        exact ok_val hs (by simp [execOp, ho, hv, Instr.loadAt, Instr.sureAddr, h3]) h4
      · trivial
  · trivial

theorem nilCheck_ok (hs : Sim α Im σ w) (hρ : ∀ x, Rel α Im w (ρ x) (a.eval x)) {x : Operand} (ho : o.op = .nilCheck x) : StepOk P o a w α Im σ (stepA ρ σ (.nilCheck x)) := by
  have hx := hρ x
  simp only [stepA]
  split
  · rename_i hp
    rw [hp] at hx
    generalize hv : a.eval x = vx at hx
    have hx' := hx
    cases hx with
    | ptr _ _ _ _ l hl => exact ok_val hs (by simp [execOp, ho, hv]) hx'
  · rename_i hp
    rw [hp] at hx
    generalize hv : a.eval x = vx at hx
    have hx' := hx
    cases hx with
    | iptr => exact ok_val hs (by simp [execOp, ho, hv]) hx'
  · trivial

theorem fieldAddr_ok (hs : Sim α Im σ w) (hρ : ∀ x, Rel α Im w (ρ x) (a.eval x)) {t : TypeId} {f : Nat} {fs : Array Field} {fd : Field} {i : TypeInfo} {x : Operand} (ho : o.op = .fieldAddr t x f) (hd : P.underlying t = some (.struct fs)) (hf : fs[f]? = some fd) (hi : P.info? fd.type = some i) (h0 : i.size ≠ 0) :
    StepOk P o a w α Im σ (stepA ρ σ (.fieldAddr fd.offset x)) := by
  have hx := hρ x
  have hrun : ∀ b off, a.eval x = .pointer (some ⟨b, off, none⟩) → (execOp a.eval o).run P w = .ok (.value (.pointer (some ⟨b, off + fd.offset, none⟩))) w := fun b off hv => by
    simp [execOp, ho, hv, Instr.fieldAt, run_underlying hd, hf, Instr.sureAddr, fieldPlace, run_sizeOf hi, h0, Addr.add_lit]
  simp only [stepA]
  split
  · rename_i id ver e k hp
    rw [hp] at hx
    generalize hv : a.eval x = vx at hx
    cases hx with
    | ptr _ _ _ _ l hl =>
      refine ok_val hs (hrun _ _ hv) ?_
      have := Rel.ptr (Im := Im) (w := w) id ver e (k + fd.offset) l hl
      rwa [← Nat.add_assoc] at this
  · rename_i cs k hp
    rw [hp] at hx
    generalize hv : a.eval x = vx at hx
    cases hx with
    | iptr _ _ b base f him hc hr =>
      refine ok_val hs (hrun _ _ hv) ?_
      have := Rel.iptr (α := α) (Im := Im) (w := w) cs (k + fd.offset) b base f him hc hr
      rwa [← Nat.add_assoc] at this
  · trivial

theorem field_ok (hs : Sim α Im σ w) (hρ : ∀ x, Rel α Im w (ρ x) (a.eval x)) {t : TypeId} {f : Nat} {fs : Array Field} {fd : Field} {d : TypeDesc} {i : TypeInfo} {x : Operand} (ho : o.op = .field t x f) (hd : P.underlying t = some (.struct fs)) (hf : fs[f]? = some fd) (hdd : P.underlying fd.type = some d) (hi : P.info? fd.type = some i) :
    StepOk P o a w α Im σ (stepA ρ σ (.field (isAggD d) (if isAggD d then i.size else 1) fd.offset x)) := by
  have hx := hρ x
  simp only [stepA]
  split
  · rename_i cs hp
    rw [hp] at hx
    generalize hv : a.eval x = vx at hx
    cases hx with
    | agg _ vs hsz h1 hr =>
      unfold opt
      split
      · rename_i v hp
        by_cases ha : isAggD d = true
        · rw [ha] at hp
          simp only [partA, if_true] at hp
          split at hp
          · rename_i hle
            injection hp with hp
            subst hp
            refine ok_val hs (cv := .agg (vs.extract fd.offset (fd.offset + i.size))) ?_ ?_
            · cases d <;> simp [isAggD] at ha <;> simp [execOp, ho, hv, Instr.field, run_underlying hd, hf, part, isAgg, run_underlying hdd, run_sizeOf hi, asAgg]
            · refine .agg _ _ (by simp; omega) (fun j v hv => ?_) (fun j x v hx hv => ?_)
              · rw [Array.getElem?_extract] at hv
                split at hv
                · exact h1 _ _ hv
                · cases hv
              · rw [Array.getElem?_extract] at hv
                split at hv
                · refine hr _ _ _ ?_ hv
                  simp only [List.getElem?_take, List.getElem?_drop] at hx
                  split at hx
                  · exact hx
                  · cases hx
                · cases hv
          · cases hp
        · have ha' : isAggD d = false := by simpa using ha
          rw [ha'] at hp
          have hp' : cs[fd.offset]? = some v := by simpa [partA] using hp
          have hlt : fd.offset < vs.size := by rw [hsz]; exact (List.getElem?_eq_some_iff.1 hp').1
          have hvv := Array.getElem?_eq_getElem hlt
          refine ok_val hs (cv := vs[fd.offset]) ?_ (hr _ _ _ hp' hvv)
          cases d <;> simp [isAggD] at ha' <;> simp [execOp, ho, hv, Instr.field, run_underlying hd, hf, part, isAgg, run_underlying hdd, asAgg, hvv]
      · trivial
  · trivial

theorem indexAddrS_ok (hs : Sim α Im σ w) (hρ : ∀ x, Rel α Im w (ρ x) (a.eval x)) {t e : TypeId} {j : TypeInfo} {x i : Operand} (ho : o.op = .indexAddr t x i) (hd : P.underlying t = some (.slice e)) (hj : P.info? e = some j) :
    StepOk P o a w α Im σ (stepA ρ σ (.indexAddrS j.size x i)) := by
  have hx := hρ x
  have hi := hρ i
  have hrun : ∀ b off len cap (k : IntKind) (n : Int), a.eval x = .slice (some ⟨b, off, none⟩) len cap → a.eval i = .int k n → 0 ≤ n → n < len → (execOp a.eval o).run P w = .ok (.value (.pointer (some ⟨b, off + n.toNat * j.size, none⟩))) w := fun b off len cap k n hv hn h0 h1 => by
    simp [execOp, ho, hv, hn, Instr.indexAt, asIntOf, run_underlying hd, h0, h1, run_sizeOf hj, Addr.add_lit]
  simp only [stepA]
  split
  · rename_i id ver off len sz' k n hp hn
    rw [hp] at hx
    rw [hn] at hi
    generalize hv : a.eval x = vx at hx
    generalize hvi : a.eval i = vi at hi
    split
    · rename_i hc
      obtain ⟨hsz, h0, h1⟩ := hc
      cases hi with
      | sc _ _ =>
        cases hx with
        | sl0 _ _ _ l a0 hl => omega
        | sl _ _ _ _ cap l hl hcap hN =>
          refine ok_val hs (hrun _ _ _ _ _ _ hv hvi h0 h1) ?_
          rw [← hsz]
          have := Rel.ptr (Im := Im) (w := w) id ver (off + n.toNat) 0 l hl
          rwa [Nat.add_zero, Nat.add_mul, ← Nat.add_assoc] at this
    · trivial
  · rename_i xs k n hp hn
    rw [hp] at hx
    rw [hn] at hi
    generalize hv : a.eval x = vx at hx
    generalize hvi : a.eval i = vi at hi
    split
    · rename_i h0
      split
      · rename_i c hc
        split
        · rename_i hsz
          cases hi with
          | sc _ _ =>
            cases hx with
            | lst0 a0 cap => simp at hc
            | lst _ b base sz cap f him hcap hss hcc hr =>
              have hlt := (List.getElem?_eq_some_iff.1 hc).1
              have e1 := hss _ _ hc
              rw [hsz] at e1
              refine ok_val hs (hrun _ _ _ _ _ _ hv hvi h0 (by omega)) ?_
              rw [e1]
              exact Rel.iptr c 0 b (base + n.toNat * sz) (f n.toNat) him (fun q y hy => hcc _ _ q y hc hy) (fun q y hy => hr _ _ q y hc hy)
        · trivial
      · trivial
    · trivial
  · trivial

theorem indexAddrA_ok (hs : Sim α Im σ w) (hρ : ∀ x, Rel α Im w (ρ x) (a.eval x)) {t e : TypeId} {len : Nat} {j : TypeInfo} {x i : Operand} (ho : o.op = .indexAddr t x i) (hd : P.underlying t = some (.array len e)) (hj : P.info? e = some j) :
    StepOk P o a w α Im σ (stepA ρ σ (.indexAddrA len j.size x i)) := by
  have hx := hρ x
  have hi := hρ i
  have hrun : ∀ b off (k : IntKind) (n : Int), a.eval x = .pointer (some ⟨b, off, none⟩) → a.eval i = .int k n → 0 ≤ n → n < len → (execOp a.eval o).run P w = .ok (.value (.pointer (some ⟨b, off + n.toNat * j.size, none⟩))) w := fun b off k n hv hn h0 h1 => by
    simp [execOp, ho, hv, hn, Instr.indexAt, asIntOf, run_underlying hd, Instr.sureAddr, h0, h1, run_sizeOf hj, Addr.add_lit]
  simp only [stepA]
  split
  · rename_i id ver q k kk n hp hn
    rw [hp] at hx
    rw [hn] at hi
    generalize hv : a.eval x = vx at hx
    generalize hvi : a.eval i = vi at hi
    split
    · rename_i hc
      obtain ⟨h0, h1⟩ := hc
      cases hi with
      | sc _ _ =>
        cases hx with
        | ptr _ _ _ _ l hl =>
          refine ok_val hs (hrun _ _ _ _ hv hvi h0 h1) ?_
          have := Rel.ptr (Im := Im) (w := w) id ver q (k + n.toNat * j.size) l hl
          rwa [← Nat.add_assoc] at this
    · trivial
  · rename_i cs k kk n hp hn
    rw [hp] at hx
    rw [hn] at hi
    generalize hv : a.eval x = vx at hx
    generalize hvi : a.eval i = vi at hi
    split
    · rename_i hc
      obtain ⟨h0, h1⟩ := hc
      cases hi with
      | sc _ _ =>
        cases hx with
        | iptr _ _ b base f him hcc hr =>
          refine ok_val hs (hrun _ _ _ _ hv hvi h0 h1) ?_
          have := Rel.iptr (α := α) (Im := Im) (w := w) cs (k + n.toNat * j.size) b base f him hcc hr
          rwa [← Nat.add_assoc] at this
    · trivial
  · trivial

theorem extract_ok (hs : Sim α Im σ w) (hρ : ∀ x, Rel α Im w (ρ x) (a.eval x)) {x : Operand} {i : Nat} (ho : o.op = .extract x i) : StepOk P o a w α Im σ (stepA ρ σ (.extract x i)) := by
  have hx := hρ x
  simp only [stepA]
  split
  · rename_i vs hp
    rw [hp] at hx
    generalize hv : a.eval x = vx at hx
    cases hx with
    | tup _ us hsz hr =>
      unfold opt
      split
      · rename_i v hvi
        have hlt : i < us.size := by rw [hsz]; exact (List.getElem?_eq_some_iff.1 hvi).1
        have hu := Array.getElem?_eq_getElem hlt
        exact ok_val hs (by simp [execOp, ho, hv, Instr.extract, hu]) (hr _ _ _ hvi hu)
      · trivial
  · trivial

theorem convInt_ok (hs : Sim α Im σ w) (hρ : ∀ x, Rel α Im w (ρ x) (a.eval x)) {s t : TypeId} {k0 k : IntKind} {x : Operand} (ho : o.op = .convert s t x) (h1 : P.underlying s = some (.int k0)) (h2 : P.underlying t = some (.int k)) : StepOk P o a w α Im σ (stepA ρ σ (.convInt k x)) := by
  have hx := hρ x
  simp only [stepA]
  split
  · rename_i kk n hp
    rw [hp] at hx
    generalize hv : a.eval x = vx at hx
    cases hx with
    | sc _ _ => exact ok_val hs (by simp [execOp, ho, hv, convert, run_underlying h1, run_underlying h2, Conv.intToInt]) (.sc _ rfl)
  · trivial

theorem convStr_ok (hs : Sim α Im σ w) (hρ : ∀ x, Rel α Im w (ρ x) (a.eval x)) {s t : TypeId} {x : Operand} (ho : o.op = .convert s t x) (h1 : P.underlying s = some .string) (h2 : P.underlying t = some .string) : StepOk P o a w α Im σ (stepA ρ σ (.convStr x)) := by
  have hx := hρ x
  simp only [stepA]
  split
  · rename_i n hp
    rw [hp] at hx
    generalize hv : a.eval x = vx at hx
    cases hx with
    | sc _ _ => exact ok_val hs (by simp [execOp, ho, hv, convert, run_underlying h1, run_underlying h2]) (.sc _ rfl)
  · trivial

theorem un_ok (hs : Sim α Im σ w) (hρ : ∀ x, Rel α Im w (ρ x) (a.eval x)) {t : TypeId} {op : UnOp} {x : Operand} (ho : o.op = .unOp op t x) : StepOk P o a w α Im σ (stepA ρ σ (.un op x)) := by
  have hx := hρ x
  simp only [stepA]
  split
  · rename_i b hp
    rw [hp] at hx
    generalize hv : a.eval x = vx at hx
    cases hx with
    | sc _ _ => exact ok_val hs (by simp [execOp, ho, hv, Op.unary]) (.sc _ rfl)
  · rename_i k n hp
    rw [hp] at hx
    generalize hv : a.eval x = vx at hx
    cases hx with
    | sc _ _ => exact ok_val hs (by simp [execOp, ho, hv, Op.unary, Op.intArith]) (.sc _ rfl)
  · trivial

theorem makeFunc_ok (hs : Sim α Im σ w) (hρ : ∀ x, Rel α Im w (ρ x) (a.eval x)) {f : FuncId} {first caps : Array Operand} (ho : o.op = .makeFunc (.func f) first caps) (hf : first = #[]) : StepOk P o a w α Im σ (stepA ρ σ (.makeFunc f caps.toList)) := by
  subst hf
  refine ok_val hs (cv := .func (.func f) #[] (caps.map a.eval)) (by simp [execOp, ho, Instr.makeFunc]) (.func _ _ _ (by simp) (fun i x v hx hv => ?_))
  simp only [List.getElem?_map, Array.getElem?_toList, Array.getElem?_map] at hx hv
  cases hc : caps[i]? with
  | none => rw [hc] at hx; cases hx
  | some c =>
    rw [hc] at hx hv
    cases hx
    cases hv
    exact hρ c

theorem indexStr_ok (hs : Sim α Im σ w) (hρ : ∀ x, Rel α Im w (ρ x) (a.eval x)) {t : TypeId} {x i : Operand} (ho : o.op = .index t x i) (hd : P.underlying t = some .string) : StepOk P o a w α Im σ (stepA ρ σ (.indexStr x i)) := by
  have hx := hρ x
  have hi := hρ i
  simp only [stepA]
  split
  · rename_i s k n hp hn
    rw [hp] at hx
    rw [hn] at hi
    generalize hv : a.eval x = vx at hx
    generalize hvi : a.eval i = vi at hi
    split
    · rename_i h0
      split
      · rename_i b hb
        cases hi with
        | sc _ _ =>
          cases hx with
          | sc _ _ => exact ok_val hs (by simp [execOp, ho, hv, hvi, Instr.index, asIntOf, run_underlying hd, h0, hb]) (.sc _ rfl)
      · trivial
    · trivial
  · trivial

theorem lenStr_ok (hs : Sim α Im σ w) (hρ : ∀ x, Rel α Im w (ρ x) (a.eval x)) {t : TypeId} {c : Call} {x : Operand} (ho : o.op = .call c) (hc : c.callee = .builtin .len) (ht : c.argTypes[0]? = some t) (hx : c.args.toList = [x]) (hd : P.underlying t = some .string) : StepOk P o a w α Im σ (stepA ρ σ (.lenStr x)) := by
  have hr := hρ x
  have hargs : c.args = #[x] := by apply Array.ext'; simpa using hx
  simp only [stepA]
  split
  · rename_i s hp
    rw [hp] at hr
    generalize hv : a.eval x = vx at hr
    cases hr with
    | sc _ _ => exact ok_val hs (by simp [execOp, ho, resolve, hc, hargs, invoke, builtin, Builtin.len_, ht, hv, run_underlying hd, goInt]) (.sc _ rfl)
  · trivial

theorem lenS_ok (hs : Sim α Im σ w) (hρ : ∀ x, Rel α Im w (ρ x) (a.eval x)) {t e : TypeId} {c : Call} {x : Operand} (ho : o.op = .call c) (hc : c.callee = .builtin .len) (ht : c.argTypes[0]? = some t) (hx : c.args.toList = [x]) (hd : P.underlying t = some (.slice e)) : StepOk P o a w α Im σ (stepA ρ σ (.lenS x)) := by
  have hr := hρ x
  have hargs : c.args = #[x] := by apply Array.ext'; simpa using hx
  have hrun : ∀ ad n cap, a.eval x = .slice ad n cap → (execOp a.eval o).run P w = .ok (.value (.int .i64 n)) w := fun ad n cap hv => by
    simp [execOp, ho, resolve, hc, hargs, invoke, builtin, Builtin.len_, ht, hv, run_underlying hd, goInt]
  simp only [stepA]
  generalize hv : a.eval x = vx at hr
  split
  · rename_i hp
    rw [hp] at hr
    cases hr with
    | nils => exact ok_val hs (hrun _ _ _ hv) (.sc _ rfl)
  · rename_i hp
    rw [hp] at hr
    cases hr with
    | emp => exact ok_val hs (hrun _ _ _ hv) (.sc _ rfl)
  · rename_i xs hp
    rw [hp] at hr
    cases hr with
    | lst0 => exact ok_val hs (hrun _ _ _ hv) (.sc _ rfl)
    | lst => exact ok_val hs (hrun _ _ _ hv) (.sc _ rfl)
  · rename_i id ver off len sz hp
    rw [hp] at hr
    cases hr with
    | sl0 => exact ok_val hs (hrun _ _ _ hv) (.sc _ rfl)
    | sl => exact ok_val hs (hrun _ _ _ hv) (.sc _ rfl)
  · trivial

end
end Go.Ab

/- Each abstract operation is what the model's operation does: part 3 (stores, appends, makes, slices, calls). -/
set_option linter.unusedVariables false
set_option linter.unusedSimpArgs false
namespace Go.Ab
section
variable {P : Program} {o : Oper} {a : Act} {w : World} {α : Asg} {Im : Nat → Prop} {σ : Store} {ρ : Operand → AVal}

/-! ### A run of cells written -/
def setArr (arr : Array Value) : Nat → List Value → Array Value
  | _, [] => arr
  | o, v :: r => setArr (arr.setIfInBounds o v) (o + 1) r
theorem size_setArr : ∀ (vs : List Value) (o : Nat) (arr : Array Value), (setArr arr o vs).size = arr.size
  | [], _, _ => rfl
  | v :: r, o, arr => by rw [setArr, size_setArr r]; simp
theorem get_setArr : ∀ (vs : List Value) (o : Nat) (arr : Array Value) (k : Nat), o + vs.length ≤ arr.size → (setArr arr o vs)[k]? = if o ≤ k ∧ k < o + vs.length then vs[k - o]? else arr[k]?
  | [], o, arr, k, h => by rw [setArr, if_neg (by simp only [List.length_nil]; omega)]
  | v :: r, o, arr, k, h => by
    simp only [List.length_cons] at h
    rw [setArr, get_setArr r (o + 1) _ k (by rw [Array.size_setIfInBounds]; omega)]
    by_cases h1 : o + 1 ≤ k ∧ k < o + 1 + r.length
    · rw [if_pos h1, if_pos (by simp only [List.length_cons]; omega)]
      rw [show k - o = (k - (o + 1)) + 1 by omega, List.getElem?_cons_succ]
    · rw [if_neg h1, Array.getElem?_setIfInBounds]
      by_cases h2 : k = o
      · subst h2
        have : k < arr.size := by omega
        simp [this]
      · rw [if_neg (fun e => h2 e.symm), if_neg (by simp only [List.length_cons]; omega)]

theorem heap_setCells (b : Nat) (e : TypeId) (fr : Nat × Nat) : ∀ (vs : List Value) (o : Nat) (w : World) (arr : Array Value), w.heap[b]? = some (.cells arr e fr) →
    (w.setCells b o vs).heap[b]? = some (.cells (setArr arr o vs) e fr)
  | [], _, _, _, h => h
  | v :: r, o, w, arr, h => by
    refine heap_setCells b e fr r (o + 1) _ _ ?_
    simp only [World.setCell, Array.getElem?_modify, if_true, h, Option.map_some]
    rfl
theorem heap_setCells_ne {b c : Nat} (hne : c ≠ b) : ∀ (vs : List Value) (o : Nat) (w : World), (w.setCells b o vs).heap[c]? = w.heap[c]?
  | [], _, _ => rfl
  | v :: r, o, w => by
    rw [World.setCells, heap_setCells_ne hne r]
    simp only [World.setCell, Array.getElem?_modify]
    rw [if_neg (fun e => hne e.symm)]
theorem size_setCells {b : Nat} : ∀ (vs : List Value) (o : Nat) (w : World), (w.setCells b o vs).heap.size = w.heap.size
  | [], _, _ => rfl
  | v :: r, o, w => by rw [World.setCells, size_setCells r]; simp
theorem os_setCells {b : Nat} : ∀ (vs : List Value) (o : Nat) (w : World), (w.setCells b o vs).os = w.os ∧ (w.setCells b o vs).tape = w.tape ∧ ((w.setCells b o vs).output = w.output ∧ w.drawn ≤ (w.setCells b o vs).drawn)
  | [], _, _ => ⟨rfl, rfl, rfl, Nat.le_refl _⟩
  | v :: r, o, w => os_setCells r (o + 1) (w.setCell ⟨b, o, none⟩ v)

theorem get_setRange (cs vs : List AVal) (o j : Nat) (h : o + vs.length ≤ cs.length) : (setRange cs o vs)[j]? = if o ≤ j ∧ j < o + vs.length then vs[j - o]? else cs[j]? := by
  unfold setRange
  have hl : (cs.take o).length = o := by rw [List.length_take]; omega
  rw [List.append_assoc]
  by_cases h1 : j < o
  · rw [List.getElem?_append_left (by omega), if_neg (by omega), List.getElem?_take, if_pos h1]
  · rw [List.getElem?_append_right (by omega), hl]
    by_cases h2 : j < o + vs.length
    · rw [if_pos ⟨by omega, h2⟩, List.getElem?_append_left (by omega)]
    · rw [if_neg (by omega), List.getElem?_append_right (by omega), List.getElem?_drop]
      congr 1
      omega
theorem length_setRange (cs vs : List AVal) (o : Nat) (h : o + vs.length ≤ cs.length) : (setRange cs o vs).length = cs.length := by
  simp [setRange]; omega

/-- A run of cells of a row's own block is written. -/
theorem put_cells (hs : Sim α Im σ w) {id ver sz : Nat} {xs xs' : List (List AVal)} {l : Loc} {n : Nat} {vs : List Value} {off ver' : Nat} {β : Asg} {l' : Loc}
    (hr : rowAt σ id ver = some (false, sz, xs)) (hl : α id ver = some l)
    (hle : Asg.le α β) (hβ : ∀ i, i ≠ id → ∀ v, β i v = α i v) (hfin : ∃ N, ∀ i, N ≤ i → ∀ v, β i v = none) (hl' : β id ver' = some l') (hb : l'.b = l.b) (hsz : l'.sz = sz) (hN : l'.N = l.N) (hlast : ∀ v, ver' < v → β id v = none)
    (hoff : off + vs.length ≤ l.N) (hfit : l'.base + xs'.length * sz ≤ l.N) (h1 : ∀ v ∈ vs, v.oneCell' = true)
    (hnew : ∀ (i : Nat) (x : List AVal), xs'[i]? = some x → x.length = sz ∧ ∀ (j : Nat) (y : AVal), x[j]? = some y →
      (off ≤ l'.base + i * sz + j ∧ l'.base + i * sz + j < off + vs.length ∧ ∀ u, vs[l'.base + i * sz + j - off]? = some u → Rel α Im w y u) ∨
      (¬(off ≤ l'.base + i * sz + j ∧ l'.base + i * sz + j < off + vs.length) ∧ ∃ u, w.cell? ⟨l.b, l'.base + i * sz + j, none⟩ = some u ∧ u.oneCell' = true ∧ Rel α Im w y u)) :
    Sim β Im (σ.set id (.row ver' false sz xs')) (w.setCells l.b off vs) ∧ Step α Im σ w β Im (σ.set id (.row ver' false sz xs')) (w.setCells l.b off vs) := by
  obtain ⟨hg, _, _, _, _, _, arr, e, fr, harr, hsize⟩ := rowAt_spec hs hr hl
  have hk := hs.obj id _ hg
  obtain ⟨l0, arr0, e0, fr0, k1, k2, k3, k4, k5, k6, k7, k8, k9, k10⟩ := hk
  rw [hl] at k1
  obtain rfl := Option.some.inj k1
  rw [harr] at k3
  cases k3
  have hnim : ¬ Im l.b := k9 rfl
  have him : ∀ b, Im b → (w.setCells l.b off vs).heap[b]? = w.heap[b]? := fun b hb' => heap_setCells_ne (fun (e : b = l.b) => hnim (e ▸ hb')) _ _ _
  refine hs.put hg rfl (l := l) hl hle hβ hfin (os_setCells _ _ _).1 (os_setCells _ _ _).2.1 (os_setCells _ _ _).2.2 (by rw [size_setCells]; exact Nat.le_refl _) (fun b _ hne => heap_setCells_ne hne _ _ _) ?_ (l' := l') hl' (.inl hb) rfl
  refine ⟨l', setArr arr off vs, e, fr, hl', hsz, by rw [hb]; exact heap_setCells _ _ _ _ _ _ _ harr, by rw [size_setArr, hsize, hN], by rw [hN]; exact hfit, fun q hq => k6 q (by rw [hN] at hq; exact hq), fun i x hx => ?_, fun h => (by cases h), fun _ => by rw [hb]; exact hnim, hlast⟩
  obtain ⟨g1, g2⟩ := hnew i x hx
  refine ⟨g1, fun j y hy => ?_⟩
  rw [get_setArr _ _ _ _ (by omega)]
  rcases g2 j y hy with ⟨p1, p2, p3⟩ | ⟨p1, u, p2, p3, p4⟩
  · rw [if_pos ⟨p1, p2⟩]
    have hlt : l'.base + i * sz + j - off < vs.length := by omega
    exact ⟨vs[l'.base + i * sz + j - off], List.getElem?_eq_getElem hlt, h1 _ (List.getElem_mem hlt), (p3 _ (List.getElem?_eq_getElem hlt)).mono hle (fun _ h => h) him⟩
  · rw [if_neg p1]
    refine ⟨u, ?_, p3, p4.mono hle (fun _ h => h) him⟩
    simpa [World.cell?, harr] using p2

theorem ok_val' {v : AVal} {cv : Value} {w' : World} {σ' : Store} {β : Asg} (hr : (execOp a.eval o).run P w = .ok (.value cv) w') (hv : Rel β Im w' v cv) (hs : Sim β Im σ' w' ∧ Step α Im σ w β Im σ' w') : StepOk P o a w α Im σ (.val v σ') :=
  ⟨_, w', β, hr, .inl ⟨cv, rfl, hv⟩, hs.1, hs.2⟩

theorem store_ok (hs : Sim α Im σ w) (hρ : ∀ x, Rel α Im w (ρ x) (a.eval x)) {t : TypeId} {i : TypeInfo} {x v : Operand} (ho : o.op = .store t x v) (hi : P.info? t = some i) :
    StepOk P o a w α Im σ (stepA ρ σ (.store i.size x v)) := by
  have hx := hρ x
  have hv := hρ v
  simp only [stepA]
  split
  · rename_i id ver e k hp
    rw [hp] at hx
    generalize hax : a.eval x = vx at hx
    cases hx with
    | ptr _ _ _ _ l hl =>
      split
      · rename_i s xs vs hr hk
        split
        · rename_i c hc
          split
          · rename_i hcond
            obtain ⟨c1, c2⟩ := hcond
            obtain ⟨k1, k2, k3⟩ := known_cells hv hk
            obtain ⟨g1, g2, g3, g4, g5, g6, g7⟩ := rowAt_spec hs hr hl
            obtain ⟨g8, g9⟩ := g4 e c hc
            have hlt := (List.getElem?_eq_some_iff.1 hc).1
            have hlen : (a.eval v).cells.toList.length = i.size := by rw [Array.length_toList, k1, c1]
            have hmul : e * s + s ≤ xs.length * s := by rw [← Nat.succ_mul]; exact Nat.mul_le_mul_right _ hlt
            have hin : l.base + e * s + k + i.size ≤ l.N := by omega
            have hrun : (execOp a.eval o).run P w = .ok .skip (w.setCells l.b (l.base + e * s + k) (a.eval v).cells.toList) := by
              have hst := run_storeCells_cells (P := P) l.b (l.base + e * s + k) (a.eval v).cells.toList 0 w (fun j hj => g6 _ (by rw [hlen] at hj; omega)) (fun j hj => g5 _ (by rw [hlen] at hj; omega)) (fun u hu => k2 u (Array.mem_toList_iff.1 hu))
              rw [Nat.add_zero] at hst
              rw [← g2] at hst ⊢
              simp [execOp, ho, hax, Instr.storeAt, Instr.sureAddr, storeVar, run_sizeOf hi, k1, c1, hst]
            refine ⟨_, _, α, hrun, .inr ⟨rfl, rfl⟩, ?_⟩
            refine put_cells hs hr hl (le_refl α) (fun _ _ _ => rfl) hs.fin (n := 0) hl rfl g2 rfl ?_ (by rw [hlen]; exact hin) (by rw [List.length_set]; exact g3) (fun u hu => k2 u (Array.mem_toList_iff.1 hu)) (fun q y hy => ?_)
            · obtain ⟨_, _, _, _, q1, _, _, _, _, _, _, _, _, q2⟩ := hs.obj id _ g1
              exact q2
            · rw [List.getElem?_set] at hy
              rw [hlen]
              by_cases he : e = q
              · subst he
                rw [if_pos rfl, if_pos hlt] at hy
                cases hy
                refine ⟨by rw [length_setRange _ _ _ (by omega), g8], fun j y hy => ?_⟩
                rw [get_setRange _ _ _ _ (by omega)] at hy
                split at hy
                · rename_i hj
                  refine .inl ⟨by omega, by omega, fun u hu => ?_⟩
                  rw [show l.base + e * s + j - (l.base + e * s + k) = j - k by omega] at hu
                  exact k3 _ _ _ hy (by simpa using hu)
                · rename_i hj
                  exact .inr ⟨by omega, g9 j y hy⟩
              · rw [if_neg he] at hy
                obtain ⟨p1, p2⟩ := g4 q y hy
                refine ⟨p1, fun j z hz => .inr ⟨?_, p2 j z hz⟩⟩
                have hj : j < s := by rw [← p1]; exact (List.getElem?_eq_some_iff.1 hz).1
                rcases Nat.lt_or_ge q e with h | h
                · have : q * s + s ≤ e * s := by rw [← Nat.succ_mul]; exact Nat.mul_le_mul_right _ h
                  omega
                · have : e * s + s ≤ q * s := by rw [← Nat.succ_mul]; exact Nat.mul_le_mul_right _ (by omega)
                  omega
          · trivial
        · trivial
      · trivial
  · trivial

/-! ### Binary operations -/
theorem run_binop {op : BinOp} {t u : TypeId} {x y : Operand} (hop : o.op = .binOp op t x y u) (hg : (eqGuard op t x y (a.eval x) (a.eval y)).run P w = .ok () w) {cv : Value} (h : (binOp op t (a.eval x) (a.eval y)).run P w = .ok cv w) : (execOp a.eval o).run P w = .ok (.value cv) w := by
  simp [execOp, hop, hg, h]

theorem rel_sc_inv {v : Value} {cv : Value} (h : Rel α Im w (.sc v) cv) : cv = v := by cases h; rfl

theorem bin_ok (hs : Sim α Im σ w) (hρ : ∀ x, Rel α Im w (ρ x) (a.eval x)) {t u : TypeId} {op : BinOp} {x y : Operand} (ho : o.op = .binOp op t x y u) : StepOk P o a w α Im σ (stepA ρ σ (.bin op x y)) := by
  have hx := hρ x
  have hy := hρ y
  simp only [stepA, opt]
  split
  · rename_i v hv
    unfold binA at hv
    split at hv
    · rename_i k n k' m hp hq
      rw [hp] at hx
      rw [hq] at hy
      have ex := rel_sc_inv hx
      have ey := rel_sc_inv hy
      have hg : (eqGuard op t x y (a.eval x) (a.eval y)).run P w = .ok () w := by rw [ex]; cases op <;> rfl
      have done : ∀ cv, v = .sc cv → scalar cv = true → (binOp op t (.int k n) (.int k' m)).run P w = .ok cv w → StepOk P o a w α Im σ (.val v σ) := fun cv e hsc hr =>
        ok_val hs (run_binop ho hg (by rw [ex, ey]; exact hr)) (e ▸ Rel.sc cv hsc)
      split at hv
      · split at hv
        · rename_i h0
          injection hv with hv
          refine done _ hv.symm rfl ?_
          have : ¬ m < 0 := by omega
          simp [binOp, Op.shift, this]
        · cases hv
      · split at hv
        · rename_i h0
          injection hv with hv
          refine done _ hv.symm rfl ?_
          have : ¬ m < 0 := by omega
          simp [binOp, Op.shift, this]
        · cases hv
      · rename_i hns hnr
        split at hv
        · rename_i hk
          subst hk
          split at hv
          · injection hv with hv; exact done _ hv.symm rfl (by simp [binOp, Op.intArith])
          · injection hv with hv; exact done _ hv.symm rfl (by simp [binOp, Op.intArith])
          · injection hv with hv; exact done _ hv.symm rfl (by simp [binOp, Op.intArith])
          · split at hv
            · cases hv
            · rename_i h0
              injection hv with hv; exact done _ hv.symm rfl (by simp [binOp, Op.intDiv, h0])
          · split at hv
            · cases hv
            · rename_i h0
              injection hv with hv; exact done _ hv.symm rfl (by simp [binOp, Op.intDiv, h0])
          · injection hv with hv; exact done _ hv.symm rfl (by simp [binOp, Op.intBits])
          · injection hv with hv; exact done _ hv.symm rfl (by simp [binOp, Op.intBits])
          · injection hv with hv; exact done _ hv.symm rfl (by simp [binOp, Op.intBits])
          · injection hv with hv; exact done _ hv.symm rfl (by simp [binOp, Op.intBits])
          · injection hv with hv; exact done _ hv.symm rfl (by simp [binOp, Op.intCmp])
          · injection hv with hv; exact done _ hv.symm rfl (by simp [binOp, Op.intCmp])
          · injection hv with hv; exact done _ hv.symm rfl (by simp [binOp, Op.intCmp])
          · injection hv with hv; exact done _ hv.symm rfl (by simp [binOp, Op.intCmp])
          · injection hv with hv; exact done _ hv.symm rfl (by simp [binOp, Op.intCmp])
          · injection hv with hv; exact done _ hv.symm rfl (by simp [binOp, Op.intCmp])
          · cases hv
        · cases hv
    · rename_i s s' hp hq
      rw [hp] at hx
      rw [hq] at hy
      have ex := rel_sc_inv hx
      have ey := rel_sc_inv hy
      have hg : (eqGuard op t x y (a.eval x) (a.eval y)).run P w = .ok () w := by rw [ex]; cases op <;> rfl
      have done : ∀ cv, v = .sc cv → scalar cv = true → (binOp op t (.string s) (.string s')).run P w = .ok cv w → StepOk P o a w α Im σ (.val v σ) := fun cv e hsc hr =>
        ok_val hs (run_binop ho hg (by rw [ex, ey]; exact hr)) (e ▸ Rel.sc cv hsc)
      split at hv
      · split at hv
        · rename_i h0
          injection hv with hv
          refine done _ hv.symm rfl ?_
          have : ¬ (9223372036854775807 < ((s.size : Int) + (s'.size : Int))) := by omega
          simp [binOp, Op.stringOp, this]
        · cases hv
      · injection hv with hv; exact done _ hv.symm rfl (by simp [binOp, Op.stringOp])
      · injection hv with hv; exact done _ hv.symm rfl (by simp [binOp, Op.stringOp])
      · injection hv with hv; exact done _ hv.symm rfl (by simp [binOp, Op.stringOp])
      · injection hv with hv; exact done _ hv.symm rfl (by simp [binOp, Op.stringOp])
      · injection hv with hv; exact done _ hv.symm rfl (by simp [binOp, Op.stringOp])
      · injection hv with hv; exact done _ hv.symm rfl (by simp [binOp, Op.stringOp])
      · cases hv
    · cases hv
  · trivial

theorem run_equalIn_ptr (d : Nat) {t e : TypeId} (hd : P.underlying t = some (.pointer e)) (q : Option Addr) : (Op.equalIn (d + 1) t (.pointer none) (.pointer q)).run P w = .ok q.isNone w := by
  simp [Op.equalIn, run_underlying hd]
theorem run_equalIn_ptr' (d : Nat) {t e : TypeId} (hd : P.underlying t = some (.pointer e)) (p : Addr) : (Op.equalIn (d + 1) t (.pointer (some p)) (.pointer none)).run P w = .ok false w := by
  simp [Op.equalIn, run_underlying hd]
theorem run_equalIn_sl (d : Nat) {t e : TypeId} (hd : P.underlying t = some (.slice e)) (n c m k : Nat) (q : Option Addr) : (Op.equalIn (d + 1) t (.slice none n c) (.slice q m k)).run P w = .ok q.isNone w := by
  simp [Op.equalIn, run_underlying hd]
theorem run_equalIn_sl' (d : Nat) {t e : TypeId} (hd : P.underlying t = some (.slice e)) (p : Addr) (n c m k : Nat) : (Op.equalIn (d + 1) t (.slice (some p) n c) (.slice none m k)).run P w = .ok false w := by
  simp [Op.equalIn, run_underlying hd]
theorem run_equalIn_b (d : Nat) {t : TypeId} (hd : P.underlying t = some .bool) (p q : Bool) : (Op.equalIn (d + 1) t (.bool p) (.bool q)).run P w = .ok (p == q) w := by
  simp [Op.equalIn, run_underlying hd]

theorem eqBool_ok (hs : Sim α Im σ w) (hρ : ∀ x, Rel α Im w (ρ x) (a.eval x)) {t u : TypeId} {op : BinOp} {x y : Operand} (hop : op = .eql ∨ op = .neq) (ho : o.op = .binOp op t x y u) (hd : P.underlying t = some .bool) : StepOk P o a w α Im σ (stepA ρ σ (.eqBool (op == .neq) x y)) := by
  have hx := hρ x
  have hy := hρ y
  simp only [stepA]
  split
  · rename_i p q hp hq
    rw [hp] at hx
    rw [hq] at hy
    have ex := rel_sc_inv hx
    have ey := rel_sc_inv hy
    have hg : (eqGuard op t x y (a.eval x) (a.eval y)).run P w = .ok () w := by rw [ex]; cases op <;> rfl
    rcases hop with rfl | rfl
    · exact ok_val hs (run_binop ho hg (cv := .bool (p == q)) (by rw [ex, ey]; have := run_equalIn_b (w := w) 9999 hd p q; simp [binOp, Op.equal, Op.maxDepth, this])) (by simp only [negB]; exact Rel.sc _ rfl)
    · exact ok_val hs (run_binop ho hg (cv := .bool (!(p == q))) (by rw [ex, ey]; have := run_equalIn_b (w := w) 9999 hd p q; simp [binOp, Op.equal, Op.maxDepth, this])) (by simp only [negB]; exact Rel.sc _ rfl)
  · trivial

theorem eqPtr_ok (hs : Sim α Im σ w) (hρ : ∀ x, Rel α Im w (ρ x) (a.eval x)) {t u e : TypeId} {op : BinOp} {x y : Operand} (hop : op = .eql ∨ op = .neq) (ho : o.op = .binOp op t x y u) (hd : P.underlying t = some (.pointer e)) : StepOk P o a w α Im σ (stepA ρ σ (.eqPtr (op == .neq) x y)) := by
  have hx := hρ x
  have hy := hρ y
  simp only [stepA, opt]
  split
  · rename_i v hv
    obtain ⟨b, hb, rfl⟩ := Option.map_eq_some_iff.1 hv
    have key : ∃ p q, a.eval x = .pointer p ∧ a.eval y = .pointer q ∧ ((p = none ∧ b = q.isNone) ∨ (p ≠ none ∧ q = none ∧ b = false)) := by
      generalize ρ x = rx at hx hb
      generalize ρ y = ry at hy hb
      generalize a.eval x = vx at hx
      generalize a.eval y = vy at hy
      cases hx <;> cases hy <;> simp [eqPtrA] at hb <;> subst hb <;> exact ⟨_, _, rfl, rfl, by simp⟩
    obtain ⟨p, q, ex, ey, hpq⟩ := key
    have hg : (eqGuard op t x y (a.eval x) (a.eval y)).run P w = .ok () w := by rw [ex]; cases op <;> rfl
    have heq : (Op.equal t (.pointer p) (.pointer q)).run P w = .ok b w := by
      rcases hpq with ⟨rfl, rfl⟩ | ⟨hp, rfl, rfl⟩
      · exact run_equalIn_ptr 9999 hd q
      · cases p with
        | none => exact absurd rfl hp
        | some p => exact run_equalIn_ptr' 9999 hd p
    rcases hop with rfl | rfl
    · exact ok_val hs (run_binop ho hg (cv := .bool b) (by rw [ex, ey]; simp [binOp, heq])) (by simp only [negB]; exact Rel.sc _ rfl)
    · exact ok_val hs (run_binop ho hg (cv := .bool (!b)) (by rw [ex, ey]; simp [binOp, heq])) (by simp only [negB]; exact Rel.sc _ rfl)
  · trivial

theorem eqSl_ok (hs : Sim α Im σ w) (hρ : ∀ x, Rel α Im w (ρ x) (a.eval x)) {t u e : TypeId} {op : BinOp} {x y : Operand} (hop : op = .eql ∨ op = .neq) (ho : o.op = .binOp op t x y u) (hd : P.underlying t = some (.slice e)) : StepOk P o a w α Im σ (stepA ρ σ (.eqSl (op == .neq) x y)) := by
  have hx := hρ x
  have hy := hρ y
  have key : ∀ p n c q m d, a.eval x = .slice p n c → a.eval y = .slice q m d → p = none ∨ q = none → (execOp a.eval o).run P w = .ok (.value (.bool (if (op == .neq) = true then !(p.isNone && q.isNone) else (p.isNone && q.isNone)))) w := by
    intro p n c q m d ex ey hpq
    have hg : (eqGuard op t x y (a.eval x) (a.eval y)).run P w = .ok () w := by rw [ex]; cases op <;> rfl
    have heq : (Op.equal t (.slice p n c) (.slice q m d)).run P w = .ok (p.isNone && q.isNone) w := by
      rcases hpq with rfl | rfl
      · exact run_equalIn_sl 9999 hd _ _ _ _ _
      · cases p with
        | none => exact run_equalIn_sl 9999 hd _ _ _ _ _
        | some p => exact run_equalIn_sl' 9999 hd _ _ _ _ _
    rcases hop with rfl | rfl
    · exact run_binop ho hg (cv := .bool (p.isNone && q.isNone)) (by rw [ex, ey]; simp [binOp, heq])
    · exact run_binop ho hg (cv := .bool (!(p.isNone && q.isNone))) (by rw [ex, ey]; simp [binOp, heq])
  have any : ∀ b : Bool, Rel α Im w (.sc (.bool true)) (.bool b) ∨ Rel α Im w (.sc (.bool false)) (.bool b) := fun b => by
    cases b
    · exact .inr (Rel.sc _ rfl)
    · exact .inl (Rel.sc _ rfl)
  simp only [stepA]
  generalize ρ x = rx at hx
  generalize ρ y = ry at hy
  generalize hvx : a.eval x = vx at hx key
  generalize hvy : a.eval y = vy at hy key
  unfold eqSlR
  split
  · cases hx; cases hy
    exact ok_val hs (key _ _ _ _ _ _ rfl rfl (.inl rfl)) (by simp only [negB]; exact Rel.sc _ rfl)
  · cases hx; cases hy
    exact ok_val hs (key _ _ _ _ _ _ rfl rfl (.inl rfl)) (by simp only [negB]; exact Rel.sc _ rfl)
  · cases hx; cases hy
    exact ok_val hs (key _ _ _ _ _ _ rfl rfl (.inr rfl)) (by simp only [negB]; exact Rel.sc _ rfl)
  · cases hx
    cases hy <;> exact ⟨_, key _ _ _ _ _ _ rfl rfl (.inl rfl), any _⟩
  · cases hy
    cases hx <;> exact ⟨_, key _ _ _ _ _ _ rfl rfl (.inr rfl), any _⟩
  · cases hx
    cases hy <;> exact ⟨_, key _ _ _ _ _ _ rfl rfl (.inl rfl), any _⟩
  · cases hy
    cases hx <;> exact ⟨_, key _ _ _ _ _ _ rfl rfl (.inr rfl), any _⟩
  · trivial

end
end Go.Ab

/- Each abstract operation is what the model's operation does: part 4 (appends, makes, slices, calls). -/
set_option linter.unusedVariables false
set_option linter.unusedSimpArgs false
namespace Go.Ab
section
variable {P : Program} {o : Oper} {a : Act} {w : World} {α : Asg} {Im : Nat → Prop} {σ : Store} {ρ : Operand → AVal}

/-! ### Calls -/
theorem callF_ok (hs : Sim α Im σ w) (hρ : ∀ x, Rel α Im w (ρ x) (a.eval x)) {c : Call} {f : FuncId} {fn : Func} (ho : o.op = .call c) (hc : c.callee = .value (.func f)) (hf : P.funcs[f]? = some fn) (hb : fn.body.isNone = false) (hn : (fn.name == "runtime.NumGoroutine") = false) :
    StepOk P o a w α Im σ (stepA ρ σ (.callF f c.args.toList)) := by
  refine ⟨c.args.map a.eval, ?_, by simp, fun i x v hx hv => ?_⟩
  · have hev : a.eval (.func f) = .func (.func f) #[] #[] := rfl
    have hn' : ¬ fn.name = "runtime.NumGoroutine" := by simpa using hn
    have hb' : ¬ fn.body = none := fun h => by rw [h] at hb; cases hb
    simp [execOp, ho, resolve, hc, hev, Deferred.ofValue, invoke, callFunc, hf, hn', hb']
  · simp only [List.getElem?_map, Array.getElem?_toList, Array.getElem?_map] at hx hv
    cases hc : c.args[i]? with
    | none => rw [hc] at hx; cases hx
    | some q =>
      rw [hc] at hx hv
      cases hx
      cases hv
      exact hρ q

theorem callV_ok (hs : Sim α Im σ w) (hρ : ∀ x, Rel α Im w (ρ x) (a.eval x)) {c : Call} {q : Operand} (ho : o.op = .call c) (hc : c.callee = .value q) :
    (∀ f caps, ρ q = .func f caps → ∃ fn, P.funcs[f]? = some fn ∧ fn.body.isNone = false ∧ (fn.name == "runtime.NumGoroutine") = false) → StepOk P o a w α Im σ (stepA ρ σ (.callV q c.args.toList)) := by
  intro hfn
  have hq := hρ q
  simp only [stepA]
  split
  · rename_i f caps hp
    obtain ⟨fn, hf, hb, hn⟩ := hfn f caps hp
    rw [hp] at hq
    generalize hv : a.eval q = vq at hq
    have hn' : ¬ fn.name = "runtime.NumGoroutine" := by simpa using hn
    have hb' : ¬ fn.body = none := fun h => by rw [h] at hb; cases hb
    cases hq with
    | func _ _ vs hsz hr =>
      refine ⟨c.args.map a.eval ++ vs, ?_, by simp [hsz], fun i x v hx hv => ?_⟩
      · simp [execOp, ho, resolve, hc, hv, Deferred.ofValue, invoke, callFunc, hf, hn', hb']
      · have hl : (c.args.toList.map ρ).length = (c.args.map a.eval).size := by simp
        by_cases hi : i < (c.args.map a.eval).size
        · rw [List.getElem?_append_left (by rw [hl]; exact hi)] at hx
          rw [Array.getElem?_append_left hi] at hv
          simp only [List.getElem?_map, Array.getElem?_toList, Array.getElem?_map] at hx hv
          cases hc : c.args[i]? with
          | none => rw [hc] at hx; cases hx
          | some q =>
            rw [hc] at hx hv
            cases hx
            cases hv
            exact hρ q
        · rw [List.getElem?_append_right (by rw [hl]; omega)] at hx
          rw [Array.getElem?_append_right (by omega)] at hv
          rw [hl] at hx
          exact hr _ _ _ hx hv
  · trivial

/-! ### index of an array that is a value -/
theorem indexA_ok (hs : Sim α Im σ w) (hρ : ∀ x, Rel α Im w (ρ x) (a.eval x)) {t e : TypeId} {len : Nat} {d : TypeDesc} {j : TypeInfo} {x i : Operand} (ho : o.op = .index t x i) (hd : P.underlying t = some (.array len e)) (hdd : P.underlying e = some d) (hj : P.info? e = some j)
    (h1 : isAggD d = true ∨ j.size = 1) : StepOk P o a w α Im σ (stepA ρ σ (.indexA len (isAggD d) j.size x i)) := by
  have hx := hρ x
  have hi := hρ i
  simp only [stepA]
  split
  · rename_i cs k n hp hn
    rw [hp] at hx
    rw [hn] at hi
    have ei := rel_sc_inv hi
    generalize hv : a.eval x = vx at hx
    split
    · rename_i hc
      obtain ⟨c0, c1⟩ := hc
      cases hx with
      | agg _ vs hsz h1' hr =>
        unfold opt
        split
        · rename_i v hp
          by_cases ha : isAggD d = true
          · rw [ha] at hp
            simp only [partA, if_true] at hp
            split at hp
            · rename_i hle
              injection hp with hp
              subst hp
              refine ok_val hs (cv := .agg (vs.extract (n.toNat * j.size) (n.toNat * j.size + j.size))) ?_ ?_
              · cases d <;> simp [isAggD] at ha <;> simp [execOp, ho, hv, ei, Instr.index, asIntOf, run_underlying hd, c0, c1, run_sizeOf hj, part, isAgg, run_underlying hdd]
              · refine .agg _ _ (by simp; omega) (fun q v hv => ?_) (fun q x v hx hv => ?_)
                · rw [Array.getElem?_extract] at hv
                  split at hv
                  · exact h1' _ _ hv
                  · cases hv
                · rw [Array.getElem?_extract] at hv
                  split at hv
                  · refine hr _ _ _ ?_ hv
                    simp only [List.getElem?_take, List.getElem?_drop] at hx
                    split at hx
                    · exact hx
                    · cases hx
                  · cases hv
            · cases hp
          · have ha' : isAggD d = false := by simpa using ha
            have hj1 : j.size = 1 := h1.resolve_left ha
            rw [ha'] at hp
            have hp' : cs[n.toNat * j.size]? = some v := by simpa [partA] using hp
            have hlt : n.toNat * j.size < vs.size := by rw [hsz]; exact (List.getElem?_eq_some_iff.1 hp').1
            have hvv := Array.getElem?_eq_getElem hlt
            refine ok_val hs (cv := vs[n.toNat * j.size]) ?_ (hr _ _ _ hp' hvv)
            cases d <;> simp [isAggD] at ha' <;> simp [execOp, ho, hv, ei, Instr.index, asIntOf, run_underlying hd, c0, c1, run_sizeOf hj, part, isAgg, run_underlying hdd, hvv]
        · trivial
    · trivial
  · trivial

/-! ### Slices of slices, of strings -/
def boundOf (x : Option AVal) (v : Option Value) : Prop := match x, v with
  | none, none => True
  | some x, some v => ∀ n, idxOf x = some n → ∃ k, v = .int k n
  | _, _ => False
theorem boundOf_map (hρ : ∀ x, Rel α Im w (ρ x) (a.eval x)) (x : Option Operand) : boundOf (x.map ρ) (x.map a.eval) := by
  cases x with
  | none => trivial
  | some x =>
    intro n hn
    have h := hρ x
    unfold idxOf at hn
    split at hn
    · rename_i k m hp
      rw [hp] at h
      have := rel_sc_inv h
      injection hn with hn
      subst hn
      exact ⟨k, this⟩
    · cases hn

theorem run_sliceBound_ok (k : IntKind) (i : Int) (y : Nat) (code : BoundsCode) (h0 : 0 ≤ i) (h1 : i ≤ y) : (Instr.sliceBound (.int k i) y code).run P w = .ok i.toNat w := by
  simp [Instr.sliceBound, asIntOf, h0, h1]

/-- The bounds as the model reckons them: of a slice of that length and capacity. -/
theorem run_bounds {isSlice : Bool} {len cap : Nat} {lo hi mx : Option AVal} {vlo vhi vmx : Option Value} {l h : Nat} {m : Option Nat} (hcap : len ≤ cap) (h1 : boundOf lo vlo) (h2 : boundOf hi vhi) (h3 : boundOf mx vmx)
    (hb : bounds len lo hi mx = some (l, h, m)) : (Instr.sliceBounds isSlice len cap vlo vhi vmx).run P w = .ok (l, h, m.getD cap) w ∧ l ≤ h ∧ h ≤ len ∧ (∀ q, m = some q → h ≤ q ∧ q ≤ len) ∧ (mx.isNone = m.isNone) := by
  unfold bounds at hb
  cases e1 : loB lo with
  | none => rw [e1] at hb; cases hb
  | some li =>
  cases e2 : hiB len hi with
  | none => rw [e1, e2] at hb; cases hb
  | some hi' =>
  rw [e1, e2] at hb
  have r1 : 0 ≤ li → ∀ (y : Nat), li ≤ y → (lo = none ∧ vlo = none ∧ li = 0) ∨ ∃ k, vlo = some (.int k li) ∧ ∀ code, (Instr.sliceBound (.int k li) y code).run P w = .ok li.toNat w := fun c0 y hy => by
    cases lo with
    | none => cases vlo with
      | none => simp [loB] at e1; exact .inl ⟨rfl, rfl, e1.symm⟩
      | some _ => exact h1.elim
    | some x => cases vlo with
      | none => exact h1.elim
      | some v =>
        obtain ⟨k, rfl⟩ := h1 _ e1
        exact .inr ⟨k, rfl, fun code => run_sliceBound_ok k li y code c0 hy⟩
  have r2 : 0 ≤ hi' → ∀ (y : Nat), hi' ≤ y → (hi = none ∧ vhi = none ∧ hi' = len) ∨ ∃ k, vhi = some (.int k hi') ∧ ∀ code, (Instr.sliceBound (.int k hi') y code).run P w = .ok hi'.toNat w := fun c0 y hy => by
    cases hi with
    | none => cases vhi with
      | none => simp [hiB] at e2; exact .inl ⟨rfl, rfl, e2.symm⟩
      | some _ => exact h2.elim
    | some x => cases vhi with
      | none => exact h2.elim
      | some v =>
        obtain ⟨k, rfl⟩ := h2 _ e2
        exact .inr ⟨k, rfl, fun code => run_sliceBound_ok k hi' y code c0 hy⟩
  cases mx with
  | none =>
    cases vmx with
    | some _ => exact h3.elim
    | none =>
      dsimp only at hb
      split at hb
      · rename_i hc
        obtain ⟨c0, c1, c2⟩ := hc
        simp only [Option.some.injEq, Prod.mk.injEq] at hb
        obtain ⟨rfl, rfl, rfl⟩ := hb
        refine ⟨?_, by omega, by omega, fun q hq => (by cases hq), rfl⟩
        rcases r2 (by omega) cap (by omega) with ⟨_, rfl, rfl⟩ | ⟨k, rfl, q2⟩
        · rcases r1 c0 len (by omega) with ⟨_, rfl, rfl⟩ | ⟨k', rfl, q1⟩
          · simp [Instr.sliceBounds]
          · simp [Instr.sliceBounds, q1]
        · rcases r1 c0 hi'.toNat (by omega) with ⟨_, rfl, rfl⟩ | ⟨k', rfl, q1⟩
          · simp [Instr.sliceBounds, q2]
          · simp [Instr.sliceBounds, q2, q1]
      · cases hb
  | some z =>
    cases vmx with
    | none => exact h3.elim
    | some vz =>
      dsimp only at hb
      cases hz : idxOf z with
      | none => rw [hz] at hb; cases hb
      | some mi =>
        rw [hz] at hb
        dsimp only at hb
        obtain ⟨kz, rfl⟩ := h3 _ hz
        split at hb
        · rename_i hc
          obtain ⟨c9, c0, c1, c2, c3⟩ := hc
          simp only [Option.some.injEq, Prod.mk.injEq] at hb
          obtain ⟨rfl, rfl, rfl⟩ := hb
          refine ⟨?_, by omega, by omega, fun q hq => (by cases hq; omega), rfl⟩
          have q3 : ∀ code, (Instr.sliceBound (.int kz mi) cap code).run P w = .ok mi.toNat w := fun code => run_sliceBound_ok kz mi cap code (by omega) (by omega)
          rcases r2 (by omega) mi.toNat (by omega) with ⟨rfl, _, _⟩ | ⟨k, rfl, q2⟩
          · simp at c9
          · rcases r1 c0 hi'.toNat (by omega) with ⟨_, rfl, rfl⟩ | ⟨k', rfl, q1⟩
            · simp [Instr.sliceBounds, q2, q3]
            · simp [Instr.sliceBounds, q2, q1, q3]
        · cases hb

theorem slice_ok (hs : Sim α Im σ w) (hρ : ∀ x, Rel α Im w (ρ x) (a.eval x)) {t e : TypeId} {j : TypeInfo} {x : Operand} {lo hi mx : Option Operand} (ho : o.op = .slice t x lo hi mx) (hd : P.underlying t = some (.slice e)) (hj : P.info? e = some j) :
    StepOk P o a w α Im σ (stepA ρ σ (.slice j.size x lo hi mx)) := by
  have hx := hρ x
  have b1 := boundOf_map hρ lo
  have b2 := boundOf_map hρ hi
  have b3 := boundOf_map hρ mx
  have hrun : ∀ ad len cap l h m, a.eval x = .slice ad len cap → (Instr.sliceBounds true len cap (lo.map a.eval) (hi.map a.eval) (mx.map a.eval)).run P w = .ok (l, h, m) w →
      (execOp a.eval o).run P w = .ok (.value (.slice (if m = l then ad else ad.map (·.add (l * j.size))) (h - l) (m - l))) w := fun ad len cap l h m hv hb => by
    simp [execOp, ho, hv, Instr.sliceAt, run_underlying hd, Instr.slice, hb, run_sizeOf hj]
  simp only [stepA]
  generalize hv : a.eval x = vx at hx
  split
  · rename_i hp
    rw [hp] at hx
    cases hx with
    | nils =>
      split
      · rename_i r hb
        obtain ⟨l, h, m⟩ := r
        obtain ⟨r1, r2, r3, r4, r5⟩ := run_bounds (P := P) (w := w) (isSlice := true) (cap := 0) (Nat.le_refl 0) b1 b2 b3 hb
        refine ok_val hs (hrun _ _ _ _ _ _ hv r1) ?_
        have hm : m.getD 0 = 0 := by
          cases m with
          | none => rfl
          | some q => have := r4 q rfl; simp; omega
        have hl : l = 0 := by omega
        have hh : h = 0 := by omega
        subst hl; subst hh
        rw [hm]
        exact .nils
      · trivial
  · rename_i xs hp
    rw [hp] at hx
    split
    · rename_i l h hb
      split
      · rename_i hall
        have hall' : ∀ (i : Nat) (y : List AVal), xs[i]? = some y → y.length = j.size := fun i y hy => by
          have := List.all_eq_true.1 hall y (List.mem_of_getElem? hy)
          simpa using this
        cases hx with
        | lst0 ad cap =>
          obtain ⟨r1, r2, r3, r4, r5⟩ := run_bounds (P := P) (w := w) (isSlice := true) (cap := cap) (Nat.zero_le _) b1 b2 b3 hb
          refine ok_val hs (hrun _ _ _ _ _ _ hv r1) ?_
          simp at r3
          have hl : l = 0 := by omega
          subst hl; subst r3
          simpa using Rel.lst0 _ _
        | lst _ b base sz cap f him hcap hsz hc hr =>
          obtain ⟨r1, r2, r3, r4, r5⟩ := run_bounds (P := P) (w := w) (isSlice := true) (cap := cap) hcap b1 b2 b3 hb
          refine ok_val hs (hrun _ _ _ _ _ _ hv r1) ?_
          simp only [Option.getD_none]
          by_cases he : h - l = 0
          · rw [he]
            simpa using Rel.lst0 _ _
          · have hne : ¬ cap = l := by omega
            have hsj : sz = j.size := by
              have hlt : l < xs.length := by omega
              have g := List.getElem?_eq_getElem hlt
              rw [← hsz _ _ g, hall' _ _ g]
            rw [if_neg hne, Option.map_some, Addr.add_lit, ← hsj]
            have hlen : ((xs.drop l).take (h - l)).length = h - l := by rw [List.length_take, List.length_drop]; omega
            have hget : ∀ (i : Nat) (y : List AVal), ((xs.drop l).take (h - l))[i]? = some y → xs[l + i]? = some y := fun i y hy => by
              rw [List.getElem?_take] at hy
              split at hy
              · rwa [List.getElem?_drop] at hy
              · cases hy
            have := Rel.lst (α := α) (Im := Im) (w := w) ((xs.drop l).take (h - l)) b (base + l * sz) sz (cap - l) (fun i => f (l + i)) him (by rw [hlen]; omega) (fun i y hy => hsz _ _ (hget i y hy))
              (fun i y q z hy hz => by have := hc _ _ q z (hget i y hy) hz; rwa [show base + l * sz + i * sz + q = base + (l + i) * sz + q by rw [Nat.add_mul]; omega])
              (fun i y q z hy hz => hr _ _ q z (hget i y hy) hz)
            rwa [hlen] at this
      · trivial
    · rename_i l h m hb
      split
      · rename_i hml
        have key : ∀ ad cap, vx = .slice ad xs.length cap → xs.length ≤ cap → StepOk P o a w α Im σ (.val .emp σ) := fun ad cap e hcap => by
          obtain ⟨r1, r2, r3, r4, r5⟩ := run_bounds (P := P) (w := w) (isSlice := true) (cap := cap) hcap b1 b2 b3 hb
          have := r4 m rfl
          refine ok_val hs (hrun _ _ _ _ _ _ (hv.trans e) r1) ?_
          have hh : h = l := by omega
          subst hml; subst hh
          simpa using Rel.emp _
        cases hx with
        | lst0 ad cap => exact key _ _ rfl (Nat.zero_le _)
        | lst _ b base sz cap f him hcap hsz hc hr => exact key _ _ rfl hcap
      · trivial
    · trivial
  · rename_i id ver off len sz' hp
    rw [hp] at hx
    split
    · rename_i l h hb
      split
      · rename_i hsz
        cases hx with
        | sl0 _ _ _ lc ad hl =>
          obtain ⟨r1, r2, r3, r4, r5⟩ := run_bounds (P := P) (w := w) (isSlice := true) (cap := 0) (Nat.le_refl 0) b1 b2 b3 hb
          refine ok_val hs (hrun _ _ _ _ _ _ hv r1) ?_
          have hh : h = 0 := by omega
          have hl0 : l = 0 := by omega
          subst hh; subst hl0
          rw [← hsz]
          simpa using Rel.sl0 id ver off lc ad hl
        | sl _ _ _ _ cap lc hl hcap hN =>
          obtain ⟨r1, r2, r3, r4, r5⟩ := run_bounds (P := P) (w := w) (isSlice := true) (cap := cap) hcap b1 b2 b3 hb
          refine ok_val hs (hrun _ _ _ _ _ _ hv r1) ?_
          simp only [Option.getD_none]
          rw [← hsz]
          by_cases he : cap = l
          · subst he
            have hh : h = cap := by omega
            subst hh
            simpa using Rel.sl0 id ver (off + h) lc _ hl
          · rw [if_neg he, Option.map_some, Addr.add_lit]
            have := Rel.sl (Im := Im) (w := w) id ver (off + l) (h - l) (cap - l) lc hl (by omega) (by rw [show off + l + (cap - l) = off + cap by omega]; exact hN)
            rwa [Nat.add_mul, ← Nat.add_assoc] at this
      · trivial
    · rename_i l h m hb
      split
      · rename_i hml
        have key : ∀ ad cap, vx = .slice ad len cap → len ≤ cap → StepOk P o a w α Im σ (.val .emp σ) := fun ad cap e hcap => by
          obtain ⟨r1, r2, r3, r4, r5⟩ := run_bounds (P := P) (w := w) (isSlice := true) (cap := cap) hcap b1 b2 b3 hb
          have := r4 m rfl
          refine ok_val hs (hrun _ _ _ _ _ _ (hv.trans e) r1) ?_
          have hh : h = l := by omega
          subst hml; subst hh
          simpa using Rel.emp _
        cases hx with
        | sl0 => exact key _ _ rfl (Nat.le_refl 0)
        | sl _ _ _ _ cap lc hl hcap hN => exact key _ _ rfl hcap
      · trivial
    · trivial
  · trivial

theorem sliceStr_ok (hs : Sim α Im σ w) (hρ : ∀ x, Rel α Im w (ρ x) (a.eval x)) {t : TypeId} {x : Operand} {lo hi : Option Operand} (ho : o.op = .slice t x lo hi none) (hd : P.underlying t = some .string) :
    StepOk P o a w α Im σ (stepA ρ σ (.sliceStr x lo hi)) := by
  have hx := hρ x
  have b1 := boundOf_map hρ lo
  have b2 := boundOf_map hρ hi
  simp only [stepA]
  split
  · rename_i s hp
    rw [hp] at hx
    have ex := rel_sc_inv hx
    split
    · rename_i l h m hb
      obtain ⟨r1, r2, r3, r4, r5⟩ := run_bounds (P := P) (w := w) (isSlice := false) (cap := s.size) (mx := none) (vmx := none) (Nat.le_refl _) b1 b2 trivial hb
      exact ok_val hs (by simp [execOp, ho, ex, Instr.sliceAt, run_underlying hd, Instr.slice, r1]) (.sc _ rfl)
    · trivial
  · trivial

/-! ### min, max -/
theorem minmax_fold (isMax : Bool) (k : IntKind) : ∀ (rs : List AVal) (vs : List Value) (n m : Int), rs.length = vs.length → (∀ (i : Nat) x v, rs[i]? = some x → vs[i]? = some v → Rel α Im w x v) → minmaxA isMax n k rs = some m →
    (vs.foldlM (if isMax then Builtin.max2 else Builtin.min2) (.int k n)).run P w = .ok (.int k m) w
  | [], [], n, m, _, _, h => by simp only [minmaxA, Option.some.injEq] at h; subst h; simp
  | [], _ :: _, _, _, hl, _, _ => by simp at hl
  | _ :: _, [], _, _, hl, _, _ => by simp at hl
  | x :: rs, v :: vs, n, m, hl, hr, h => by
    have h0 := hr 0 x v rfl rfl
    have step : ∀ k' b, x = .sc (.int k' b) → (vs.foldlM (if isMax then Builtin.max2 else Builtin.min2) (.int k (if isMax then (if b > n then b else n) else (if b < n then b else n)))).run P w = .ok (.int k m) w →
        ((v :: vs).foldlM (if isMax then Builtin.max2 else Builtin.min2) (.int k n)).run P w = .ok (.int k m) w := fun k' b e ih => by
      subst e
      have e := rel_sc_inv h0
      subst e
      cases isMax
      · simpa [List.foldlM_cons, Builtin.min2] using ih
      · simpa [List.foldlM_cons, Builtin.max2] using ih
    match x, h, step with
    | .sc (.int k' b), h, step =>
      simp only [minmaxA] at h
      split at h
      · exact step k' b rfl (minmax_fold isMax k rs vs _ m (by simpa using hl) (fun i x v hx hv => hr (i + 1) x v hx hv) h)
      · cases h

theorem minmax_ok (hs : Sim α Im σ w) (hρ : ∀ x, Rel α Im w (ρ x) (a.eval x)) {c : Call} {isMax : Bool} (ho : o.op = .call c) (hc : c.callee = .builtin (if isMax then .max else .min)) : StepOk P o a w α Im σ (stepA ρ σ (.minmax isMax c.args.toList)) := by
  simp only [stepA]
  split
  · rename_i k n r hp
    unfold opt
    split
    · rename_i v hv
      obtain ⟨m, hm, rfl⟩ := Option.map_eq_some_iff.1 hv
      cases hargs : c.args.toList with
      | nil => rw [hargs] at hp; cases hp
      | cons x xs =>
        rw [hargs] at hp
        simp only [List.map_cons, List.cons.injEq] at hp
        obtain ⟨hx, rfl⟩ := hp
        have h0 := hρ x
        rw [hx] at h0
        have e := rel_sc_inv h0
        have hf := minmax_fold (P := P) (α := α) (Im := Im) (w := w) isMax k (xs.map ρ) (xs.map a.eval) n m (by simp) (fun i x v hx hv => by
          simp only [List.getElem?_map] at hx hv
          cases hc : xs[i]? with
          | none => rw [hc] at hx; cases hx
          | some q => rw [hc] at hx hv; cases hx; cases hv; exact hρ q) hm
        have hmap : (c.args.map a.eval).toList = .int k n :: xs.map a.eval := by simp [hargs, e]
        refine ok_val hs (cv := .int k m) ?_ (.sc _ rfl)
        cases isMax
        · simp only [Bool.false_eq_true, if_false] at hc hf
          simp [execOp, ho, resolve, hc, invoke, builtin, Builtin.min_, hargs, e, hf]
        · simp only [if_true] at hc hf
          simp [execOp, ho, resolve, hc, invoke, builtin, Builtin.max_, hargs, e, hf]
    · trivial
  · trivial

end
end Go.Ab

/- Each abstract operation is what the model's operation does: part 5 (appends, makes, literals). -/
set_option linter.unusedVariables false
set_option linter.unusedSimpArgs false
namespace Go.Ab
section
variable {P : Program} {o : Oper} {a : Act} {w : World} {α : Asg} {Im : Nat → Prop} {σ : Store} {ρ : Operand → AVal}

/-! ### What an append is handed -/
/-- Rows, as a list of cells. -/
def RowsAre (α : Asg) (Im : Nat → Prop) (w : World) (sz : Nat) (xs : List (List AVal)) (cs : List Value) : Prop :=
  cs.length = xs.length * sz ∧ (∀ u ∈ cs, u.oneCell' = true) ∧ ∀ (i : Nat) (x : List AVal), xs[i]? = some x → x.length = sz ∧ ∀ (j : Nat) (y : AVal), x[j]? = some y → ∃ u, cs[i * sz + j]? = some u ∧ Rel α Im w y u

theorem rows_read {b base sz : Nat} {xs : List (List AVal)} (h : ∀ (i : Nat) (x : List AVal), xs[i]? = some x → x.length = sz ∧ ∀ (j : Nat) (y : AVal), x[j]? = some y → ∃ u, w.cell? ⟨b, base + i * sz + j, none⟩ = some u ∧ u.oneCell' = true ∧ Rel α Im w y u) :
    ∃ cs, RowsAre α Im w sz xs cs ∧ ∀ (k : Nat) u, cs[k]? = some u → w.cell? ⟨b, base + k, none⟩ = some u := by
  let f : Nat → Value := fun k => (w.cell? ⟨b, base + k, none⟩).getD default
  have key : ∀ k, k < xs.length * sz → w.cell? ⟨b, base + k, none⟩ = some (f k) ∧ (f k).oneCell' = true := fun k hk => by
    have hsz : 0 < sz := by
      rcases Nat.eq_zero_or_pos sz with e | e
      · subst e; simp at hk
      · exact e
    have hi : k / sz < xs.length := by rw [Nat.div_lt_iff_lt_mul hsz]; exact hk
    obtain ⟨g1, g2⟩ := h (k / sz) _ (List.getElem?_eq_getElem hi)
    have hj : k % sz < (xs[k / sz]).length := by rw [g1]; exact Nat.mod_lt _ hsz
    obtain ⟨u, g3, g4, _⟩ := g2 (k % sz) _ (List.getElem?_eq_getElem hj)
    have e : base + k / sz * sz + k % sz = base + k := by rw [Nat.add_assoc, Nat.div_add_mod']
    rw [e] at g3
    have e' : f k = u := by simp only [f, g3, Option.getD_some]
    rw [e']
    exact ⟨g3, g4⟩
  refine ⟨(List.range (xs.length * sz)).map f, ⟨by simp, fun u hu => ?_, fun i x hx => ?_⟩, fun k u hu => ?_⟩
  · obtain ⟨k, hk, rfl⟩ := List.mem_map.1 hu
    exact (key k (by simpa using hk)).2
  · obtain ⟨g1, g2⟩ := h i x hx
    refine ⟨g1, fun j y hy => ?_⟩
    obtain ⟨u, g3, g4, g5⟩ := g2 j y hy
    have hi := (List.getElem?_eq_some_iff.1 hx).1
    have hj : j < sz := by rw [← g1]; exact (List.getElem?_eq_some_iff.1 hy).1
    have hlt : i * sz + j < xs.length * sz := by
      have : i * sz + sz ≤ xs.length * sz := by rw [← Nat.succ_mul]; exact Nat.mul_le_mul_right _ hi
      omega
    refine ⟨f (i * sz + j), by simp [hlt], ?_⟩
    have e : f (i * sz + j) = u := by
      simp only [f]
      rw [← Nat.add_assoc, g3, Option.getD_some]
    rw [e]
    exact g5
  · have hk : k < xs.length * sz := by
      have := (List.getElem?_eq_some_iff.1 hu).1
      simpa using this
    simp [hk] at hu
    rw [← hu]
    exact (key k hk).1

theorem src_slice {sz : Nat} {tx e' : TypeId} (hk : P.underlying tx = some (.slice e')) {b base cap : Nat} {xs : List (List AVal)} (h : ∀ (i : Nat) (x : List AVal), xs[i]? = some x → x.length = sz ∧ ∀ (j : Nat) (y : AVal), x[j]? = some y → ∃ u, w.cell? ⟨b, base + i * sz + j, none⟩ = some u ∧ u.oneCell' = true ∧ Rel α Im w y u) :
    ∃ cs, RowsAre α Im w sz xs cs ∧ Src P sz tx (.slice (some ⟨b, base, none⟩) xs.length cap) xs.length cs w := by
  obtain ⟨cs, h1, h2⟩ := rows_read h
  exact ⟨cs, h1, Src.ofSlice w hk _ _ _ cs h1.1 (fun k u hu => by rw [Addr.add_lit]; exact h2 k u hu) h1.2.1⟩

theorem src_none {sz : Nat} {tx e' : TypeId} (hk : P.underlying tx = some (.slice e')) (ad : Option Addr) (cap : Nat) : ∃ cs, RowsAre α Im w sz [] cs ∧ Src P sz tx (.slice ad 0 cap) 0 cs w := by
  refine ⟨[], ⟨by simp, fun _ h => (by cases h), fun i x hx => (by simp at hx)⟩, ?_⟩
  cases ad with
  | none => exact Src.ofNil w hk cap
  | some ad => exact Src.ofSlice w hk ad 0 cap [] (by simp) (fun k u hu => by simp at hu) (fun _ h => by cases h)

theorem src_ok (hs : Sim α Im σ w) {sz : Nat} {tx e' : TypeId} (hk : P.underlying tx = some (.slice e')) {x : AVal} {v : Value} (hx : Rel α Im w x v) {ys : List (List AVal)} (hsrc : srcRows σ sz x = some ys) :
    ∃ cs, RowsAre α Im w sz ys cs ∧ Src P sz tx v ys.length cs w := by
  unfold srcRows at hsrc
  split at hsrc
  · injection hsrc with hsrc; subst hsrc
    cases hx; exact src_none hk _ _
  · injection hsrc with hsrc; subst hsrc
    cases hx; exact src_none hk _ _
  · split at hsrc
    · rename_i ys0 hall
      injection hsrc with hsrc; subst hsrc
      have hall' : ∀ (i : Nat) (y : List AVal), ys0[i]? = some y → y.length = sz := fun i y hy => by
        have := List.all_eq_true.1 hall y (List.mem_of_getElem? hy)
        simpa using this
      cases hx with
      | lst0 => exact src_none hk _ _
      | lst xs b base sz' cap f him hcap hsz hc hr =>
        refine src_slice hk (fun i y hy => ⟨hall' i y hy, fun j z hz => ⟨f i j, ?_, (hc i y j z hy hz).2, (hr i y j z hy hz).lift⟩⟩)
        have : sz' = sz := by rw [← hsz i y hy, hall' i y hy]
        rw [← this]
        exact (hc i y j z hy hz).1
    · cases hsrc
  · rename_i id ver off len sz'
    split at hsrc
    · rename_i q s xs hr
      split at hsrc
      · rename_i hc
        obtain ⟨c1, c2, c3⟩ := hc
        injection hsrc with hsrc; subst hsrc
        cases hx with
        | sl0 _ _ _ l ad hl => simpa using src_none hk ad 0
        | sl _ _ _ _ cap l hl hcap hN =>
          obtain ⟨g1, g2, g3, g4, _⟩ := rowAt_spec hs hr hl
          have hlen : ((xs.drop off).take len).length = len := by rw [List.length_take, List.length_drop]; omega
          have := src_slice (P := P) (α := α) (Im := Im) (w := w) (sz := sz) (cap := cap) hk (b := l.b) (base := l.base + off * l.sz) (xs := (xs.drop off).take len) (fun i y hy => by
            have hy' : xs[off + i]? = some y := by
              rw [List.getElem?_take] at hy
              split at hy
              · rwa [List.getElem?_drop] at hy
              · cases hy
            obtain ⟨p1, p2⟩ := g4 _ _ hy'
            refine ⟨by rw [p1, c1], fun j z hz => ?_⟩
            obtain ⟨u, p3, p4, p5⟩ := p2 j z hz
            refine ⟨u, ?_, p4, p5⟩
            rw [g2, c1, show l.base + off * sz + i * sz + j = l.base + (off + i) * sz + j by rw [Nat.add_mul]; omega]
            rw [c1] at p3
            exact p3)
          rwa [hlen] at this ⊢
      · cases hsrc
    · cases hsrc
  · cases hsrc

theorem bytes_src {tx : TypeId} (hk : P.underlying tx = some .string) (s : ByteArray) : ∃ cs, RowsAre α Im w 1 (bytesA s) cs ∧ Src P 1 tx (.string s) (bytesA s).length cs w := by
  have hl : (bytesA s).length = s.size := by
    unfold bytesA
    rw [List.length_map, Array.length_toList]
    rfl
  refine ⟨byteCells s, ⟨by rw [byteCells_length, hl, Nat.mul_one], fun u hu => ?_, fun i x hx => ?_⟩, by rw [hl]; exact Src.ofString w hk s⟩
  · obtain ⟨_, _, rfl⟩ := List.mem_map.1 hu
    rfl
  · simp only [bytesA, List.getElem?_map] at hx
    cases hb : s.data.toList[i]? with
    | none => rw [hb] at hx; cases hx
    | some b =>
      rw [hb] at hx
      injection hx with hx
      subst hx
      refine ⟨rfl, fun j y hy => ?_⟩
      cases j with
      | succ j => simp at hy
      | zero =>
        simp only [List.getElem?_cons_zero, Option.some.injEq] at hy
        subst hy
        exact ⟨.int .u8 b.toNat, by simp only [byteCells, Nat.mul_one, Nat.add_zero, List.getElem?_map, hb]; rfl, .sc _ rfl⟩

/-! ### A row that moves to a new block -/
theorem put_new (hs : Sim α Im σ w) {w0 : World} (hh : w0.heap = w.heap) (hos : w0.os = w.os) (htape : w0.tape = w.tape) (hout : w0.output = w.output ∧ w.drawn ≤ w0.drawn) {id ver sz : Nat} {xs xs' : List (List AVal)} {l : Loc} {arr : Array Value} (e : TypeId)
    (hr : rowAt σ id ver = some (false, sz, xs)) (hl : α id ver = some l) (hsize : xs'.length * sz ≤ arr.size)
    (hc : ∀ (i : Nat) (x : List AVal), xs'[i]? = some x → x.length = sz ∧ ∀ (j : Nat) (y : AVal), x[j]? = some y → ∃ u, arr[i * sz + j]? = some u ∧ u.oneCell' = true ∧ Rel α Im w y u) :
    ∃ β l', β id (ver + 1) = some l' ∧ l'.b = w.heap.size ∧ l'.base = 0 ∧ l'.sz = sz ∧ l'.N = arr.size ∧ Sim β Im (σ.set id (.row (ver + 1) false sz xs')) (w0.alloc (.cells arr e)) ∧ Step α Im σ w β Im (σ.set id (.row (ver + 1) false sz xs')) (w0.alloc (.cells arr e)) := by
  obtain ⟨hg, _⟩ := rowAt_spec hs hr hl
  obtain ⟨l0, _, _, _, k1, _, _, _, _, _, _, _, _, k10⟩ := hs.obj id _ hg
  have hle := le_upd α (⟨w.heap.size, 0, sz, arr.size⟩ : Loc) (k10 (ver + 1) (by omega))
  have hnew : (w0.alloc (.cells arr e)).heap[w.heap.size]? = some (.cells arr e) := by rw [← hh]; exact heap_alloc_self _ _
  have hold : ∀ b, b < w.heap.size → (w0.alloc (.cells arr e)).heap[b]? = w.heap[b]? := fun b hb => by rw [heap_alloc_lt _ _ (by rw [hh]; exact hb), hh]
  refine ⟨Asg.upd α id (ver + 1) ⟨w.heap.size, 0, sz, arr.size⟩, ⟨w.heap.size, 0, sz, arr.size⟩, upd_self _ _ _ _, rfl, rfl, rfl, rfl, ?_⟩
  refine hs.put hg rfl (l := l) hl hle (fun i hi v => upd_ne _ _ (fun e => hi e.1)) (fin_upd hs.fin _ _ _) hos htape hout (by simp [hh]) (fun b hb _ => hold b hb) ?_ (l' := ⟨w.heap.size, 0, sz, arr.size⟩) (upd_self _ _ _ _) (.inr (Nat.le_refl _)) rfl
  refine ⟨_, arr, e, (0, 0), upd_self _ _ _ _, rfl, hnew, rfl, by simpa using hsize, fun o _ => by simp, fun i x hx => ?_, fun h => (by cases h), fun _ hb => ?_, fun v hv => ?_⟩
  · obtain ⟨h1, h2⟩ := hc i x hx
    refine ⟨h1, fun j y hy => ?_⟩
    obtain ⟨u, h3, h4, h5⟩ := h2 j y hy
    exact ⟨u, by simpa using h3, h4, h5.mono hle (fun _ h => h) (fun b hb => hold b (hs.im b hb))⟩
  · exact Nat.lt_irrefl _ (hs.im _ hb)
  · rw [upd_ne _ _ (by omega)]; exact k10 v (by omega)

/-- Rows one behind the other, then whatever. -/
theorem rows_append {sz : Nat} {xs ys : List (List AVal)} {cs ds : List Value} (h : RowsAre α Im w sz xs cs) (k : RowsAre α Im w sz ys ds) (rest : Array Value) : ∀ (i : Nat) (x : List AVal), (xs ++ ys)[i]? = some x → x.length = sz ∧ ∀ (j : Nat) (y : AVal), x[j]? = some y →
    ∃ u, ((cs ++ ds).toArray ++ rest)[i * sz + j]? = some u ∧ u.oneCell' = true ∧ Rel α Im w y u := by
  intro i x hx
  have get : ∀ (m : Nat) u, (cs ++ ds)[m]? = some u → ((cs ++ ds).toArray ++ rest)[m]? = some u := fun m u hu => by
    have hm := (List.getElem?_eq_some_iff.1 hu).1
    rw [Array.getElem?_append_left (by simpa using hm)]
    simpa using hu
  have one : ∀ (m : Nat) u, (cs ++ ds)[m]? = some u → u.oneCell' = true := fun m u hu => by
    rcases List.mem_append.1 (List.mem_of_getElem? hu) with hm | hm
    · exact h.2.1 u hm
    · exact k.2.1 u hm
  by_cases hi : i < xs.length
  · rw [List.getElem?_append_left hi] at hx
    obtain ⟨g1, g2⟩ := h.2.2 i x hx
    refine ⟨g1, fun j y hy => ?_⟩
    obtain ⟨u, g3, g4⟩ := g2 j y hy
    have hu : (cs ++ ds)[i * sz + j]? = some u := by rw [List.getElem?_append_left (List.getElem?_eq_some_iff.1 g3).1]; exact g3
    exact ⟨u, get _ _ hu, one _ _ hu, g4⟩
  · rw [List.getElem?_append_right (by omega)] at hx
    obtain ⟨g1, g2⟩ := k.2.2 _ x hx
    refine ⟨g1, fun j y hy => ?_⟩
    obtain ⟨u, g3, g4⟩ := g2 j y hy
    have e : i * sz + j = cs.length + ((i - xs.length) * sz + j) := by
      rw [h.1]
      have : i * sz = xs.length * sz + (i - xs.length) * sz := by rw [← Nat.add_mul]; congr 1; omega
      omega
    have hu : (cs ++ ds)[i * sz + j]? = some u := by rw [e, List.getElem?_append_right (by omega), Nat.add_sub_cancel_left]; exact g3
    exact ⟨u, get _ _ hu, one _ _ hu, g4⟩

theorem appendA_ok (hs : Sim α Im σ w) {t tx e : TypeId} {i : TypeInfo} {z : Value} (ht : P.underlying t = some (.slice e)) (hi : P.info? e = some i) (hz : i.zero = some z) (hzs : z.cells.size = i.size) (hb0 : 0 < i.bytes) {c : Call} (ho : o.op = .call c) (hc : c.callee = .builtin .append) (htys : c.argTypes = #[t, tx]) {s x : Operand} (hargs : c.args = #[s, x])
    (hsv : Rel α Im w (ρ s) (a.eval s)) {ys : List (List AVal)} {cs : List Value} (hrows : RowsAre α Im w i.size ys cs) (hsrc : Src P i.size tx (a.eval x) ys.length cs w) : StepOk P o a w α Im σ (appendA σ i.size i.bytes (ρ s) ys) := by
  have hexec : ∀ v w', (Builtin.append_ #[t, tx] o.type #[a.eval s, a.eval x]).run P w = .ok v w' → (execOp a.eval o).run P w = .ok (.value v) w' := fun v w' h => by
    simp [execOp, ho, resolve, hc, hargs, htys, invoke, builtin, h]
  have hnil : RowsAre α Im w i.size [] [] := ⟨by simp, fun _ h => (by cases h), fun i x hx => (by simp at hx)⟩
  unfold appendA
  -- of nothing
  have fresh : ∀ (v0 : AVal) (ad : Option Addr), a.eval s = .slice ad 0 0 → Rel α Im w v0 (.slice ad 0 0) → StepOk P o a w α Im σ (if ys = [] then .val v0 σ else if ys.length * i.bytes ≤ 140737488355328 ∧ ys.length ≤ 9223372036854775807 then .new (.row 0 false i.size ys) (fun id => .sl id 0 0 ys.length i.size) else .stuck) := by
    intro v0 ad hv hrel
    split
    · rename_i hy
      subst hy
      obtain rfl : cs = [] := List.eq_nil_of_length_eq_zero (by simpa using hrows.1)
      refine ok_val hs (hexec (.slice ad 0 0) w ?_) hrel
      rw [hv]
      have q1 := hsrc.len
      have q2 := hsrc.cells
      simp only [List.length_nil] at q1 q2
      rcases hsrc.kind with ⟨e', hk⟩ | hk <;> cases ad <;> simp [Builtin.append_, run_underlying ht, run_underlying hk, sizeOf, typeInfo, hi, q1, q2, storeCells]
    · rename_i hy
      split
      · rename_i hc
        intro id hid hα
        have hn : 0 < ys.length := by
          cases ys with
          | nil => exact absurd rfl hy
          | cons => simp
        have hge := grownCap_ge w (0 + ys.length) 0 e
        have hr := run_append_grow_src (P := P) w t tx o.type e i z ht hi hz ad 0 0 [] (by cases ad <;> simp [Builtin.firstCells, loadCells, loadCellsFrom]) (a.eval x) ys.length cs hsrc (by omega) (by omega) (growslice_fits (by omega) (by rw [Nat.zero_add]; exact hc.1))
        rw [← hv] at hr
        refine ok_new hs (w0 := w.drew) rfl rfl rfl ⟨rfl, Nat.le_succ _⟩ hid hα (P := P) (o := o) (a := a) (k := fun id => .sl id 0 0 ys.length i.size) (sz := i.size) (xs := ys) ?_ (fun q y hy => ?_) (hexec _ _ hr) (fun β l w' h1 h2 h3 h4 h5 => ?_)
        · simp only [Array.size_append, List.size_toArray, List.nil_append, hrows.1]; omega
        · exact rows_append hnil hrows _ q y hy
        · have hN : l.N = (grownCap w (0 + ys.length) 0 e) * i.size := by
            rw [h5]
            simp only [Array.size_append, List.size_toArray, List.nil_append, hrows.1, size_zeroCells, hzs, ← Nat.add_mul]
            congr 1
            omega
          have := Rel.sl (Im := Im) (w := w') id 0 0 ys.length (grownCap w (0 + ys.length) 0 e) l h1 (by omega) (by rw [h3, h4, hN]; simp)
          rw [h4] at this
          simpa [h2, h3] using this
      · trivial
  generalize hv : a.eval s = vs at hsv
  split
  · rename_i hp
    rw [hp] at hsv
    cases hsv with
    | nils => exact fresh _ _ hv (by rw [hp]; exact .nils)
  · rename_i hp
    rw [hp] at hsv
    cases hsv with
    | emp ad => exact fresh _ _ hv (by rw [hp]; exact .emp ad)
  · rename_i id ver off len sz' hp
    rw [hp] at hsv
    split
    · rename_i fz s' xs hr
      split
      · rename_i hcond
        obtain ⟨c1, c2, c3, c4, c5, c6⟩ := hcond
        subst c1
        have hr0 := hr
        rw [c2] at hr
        have holdlen : ((xs.drop off).take len).length = len := by rw [List.length_take, List.length_drop]; omega
        -- a new row
        have grow : ∀ (l : Loc) (ad : Option Addr) (cap : Nat) (olds : List Value), α id ver = some l → vs = .slice ad len cap → cap < len + ys.length → RowsAre α Im w i.size ((xs.drop off).take len) olds → (Builtin.firstCells i.size len (.slice ad len cap)).run P w.drew = .ok olds.toArray w.drew →
            StepOk P o a w α Im σ (.val (.sl id (ver + 1) 0 (len + ys.length) i.size) (σ.set id (.row (ver + 1) false i.size ((xs.drop off).take len ++ ys)))) := by
          intro l ad cap olds hl he hg hro hold
          have hge := grownCap_ge w (len + ys.length) cap e
          have hrun := run_append_grow_src (P := P) w t tx o.type e i z ht hi hz ad len cap olds hold (a.eval x) ys.length cs hsrc hg (by omega) (growslice_fits hg c5)
          rw [← he, ← hv] at hrun
          obtain ⟨β, l', h1, h2, h3, h4, h5, h6, h7⟩ := put_new (w0 := w.drew) hs rfl rfl rfl ⟨rfl, Nat.le_succ _⟩ e hr hl (xs' := (xs.drop off).take len ++ ys) (arr := (olds ++ cs).toArray ++ Builtin.zeroCells z.cells (grownCap w (len + ys.length) cap e - (len + ys.length))) (by
            simp only [Array.size_append, List.size_toArray, List.length_append, hro.1, hrows.1, holdlen]
            rw [← Nat.add_mul]
            omega) (rows_append hro hrows _)
          have hN : l'.N = (grownCap w (len + ys.length) cap e) * i.size := by
            rw [h5]
            simp only [Array.size_append, List.size_toArray, List.length_append, hro.1, hrows.1, holdlen, size_zeroCells, hzs, ← Nat.add_mul]
            congr 1
            omega
          have hrel := Rel.sl (Im := Im) (w := (w.drew.alloc (.cells ((olds ++ cs).toArray ++ Builtin.zeroCells z.cells (grownCap w (len + ys.length) cap e - (len + ys.length))) e))) id (ver + 1) 0 (len + ys.length) (grownCap w (len + ys.length) cap e) l' h1 (by omega) (by rw [h3, h4, hN]; simp)
          rw [h4] at hrel
          exact ok_val' (hexec _ _ hrun) (by simpa [h2, h3] using hrel) ⟨h6, h7⟩
        cases hsv with
        | sl0 _ _ _ l ad hl =>
          by_cases hy : ys = []
          · subst hy
            obtain rfl : cs = [] := List.eq_nil_of_length_eq_zero (by simpa using hrows.1)
            obtain ⟨hg, g2, g3, _⟩ := rowAt_spec hs hr hl
            obtain ⟨_, _, _, _, _, _, _, _, _, _, _, _, _, k10⟩ := hs.obj id _ hg
            have hle := le_upd α l (k10 (ver + 1) (by omega))
            have hput := put_cells hs (w := w) (n := 0) (off := 0) (vs := []) (ver' := ver + 1) (β := Asg.upd α id (ver + 1) l) (l' := l) (xs' := (xs.drop off).take 0 ++ []) hr hl hle (fun i hi v => upd_ne _ _ (fun e => hi e.1)) (fin_upd hs.fin _ _ _) (upd_self _ _ _ _) rfl g2 rfl (fun v hv => by rw [upd_ne _ _ (by omega)]; exact k10 v (by omega)) (by simp) (by simp; omega) (fun _ h => by cases h) (fun i x hx => by simp at hx)
            refine ok_val' (hexec (.slice ad 0 0) w ?_) ?_ hput
            · rw [hv]
              have q1 := hsrc.len
              have q2 := hsrc.cells
              simp only [List.length_nil] at q1 q2
              rcases hsrc.kind with ⟨e', hk⟩ | hk <;> cases ad <;> simp [Builtin.append_, run_underlying ht, run_underlying hk, sizeOf, typeInfo, hi, q1, q2, storeCells]
            · have := Rel.sl0 (α := Asg.upd α id (ver + 1) l) (Im := Im) (w := w) id (ver + 1) 0 l ad (upd_self _ _ _ _)
              rw [c3] at this
              exact this
          · have hn : 0 < ys.length := by
              cases ys with
              | nil => exact absurd rfl hy
              | cons => simp
            exact grow l ad 0 [] hl rfl (by omega) (by simpa using hnil) (by cases ad <;> simp [Builtin.firstCells, loadCells, loadCellsFrom])
        | sl _ _ _ _ cap l hl hcap hN =>
          obtain ⟨hg, g2, g3, g4, g5, g6, _⟩ := rowAt_spec hs hr hl
          obtain ⟨_, _, _, _, _, _, _, _, _, _, _, _, _, k10⟩ := hs.obj id _ hg
          have hget : ∀ (q : Nat) (y : List AVal), ((xs.drop off).take len)[q]? = some y → xs[off + q]? = some y := fun q y hy => by
            rw [List.getElem?_take] at hy
            split at hy
            · rwa [List.getElem?_drop] at hy
            · cases hy
          by_cases hroom : len + ys.length ≤ cap
          · have hle := le_upd α (⟨l.b, l.base + off * l.sz, l.sz, l.N⟩ : Loc) (k10 (ver + 1) (by omega))
            rw [g2] at hN hle
            have hcsl : cs.length = ys.length * i.size := hrows.1
            have hfit : l.base + off * i.size + (len + ys.length) * i.size ≤ l.N := by
              have : (len + ys.length) * i.size ≤ cap * i.size := Nat.mul_le_mul_right _ hroom
              rw [Nat.add_mul] at hN
              omega
            have hmul : (len + ys.length) * i.size = len * i.size + ys.length * i.size := Nat.add_mul _ _ _
            have hrun := run_append_room_src (P := P) w t tx o.type e i ht hi l.b (l.base + off * i.size) len cap (a.eval x) ys.length cs hsrc hroom (fun j hj => g6 _ (by omega)) (fun j hj => g5 _ (by omega))
            have hput := put_cells hs (n := 0) (off := l.base + off * i.size + len * i.size) (vs := cs) (ver' := ver + 1) (β := Asg.upd α id (ver + 1) ⟨l.b, l.base + off * i.size, i.size, l.N⟩) (l' := ⟨l.b, l.base + off * i.size, i.size, l.N⟩) (xs' := (xs.drop off).take len ++ ys) hr hl hle (fun i hi v => upd_ne _ _ (fun e => hi e.1)) (fin_upd hs.fin _ _ _) (upd_self _ _ _ _) rfl rfl rfl (fun v hv => by rw [upd_ne _ _ (by omega)]; exact k10 v (by omega)) (by omega) (by simp only [List.length_append, holdlen]; omega) hrows.2.1 (fun q y hy => by
              by_cases hq : q < len
              · rw [List.getElem?_append_left (by rw [holdlen]; exact hq)] at hy
                obtain ⟨p1, p2⟩ := g4 _ _ (hget q y hy)
                refine ⟨p1, fun j zz hzz => .inr ⟨?_, ?_⟩⟩
                · have hj : j < i.size := by rw [← p1]; exact (List.getElem?_eq_some_iff.1 hzz).1
                  have : q * i.size + i.size ≤ len * i.size := by rw [← Nat.succ_mul]; exact Nat.mul_le_mul_right _ hq
                  dsimp only
                  omega
                · obtain ⟨u, p3, p4, p5⟩ := p2 j zz hzz
                  refine ⟨u, ?_, p4, p5⟩
                  dsimp only
                  rw [show l.base + off * i.size + q * i.size + j = l.base + (off + q) * i.size + j by rw [Nat.add_mul]; omega]
                  exact p3
              · rw [List.getElem?_append_right (by rw [holdlen]; omega), holdlen] at hy
                obtain ⟨p1, p2⟩ := hrows.2.2 _ y hy
                refine ⟨p1, fun j zz hzz => .inl ?_⟩
                obtain ⟨u, p3, p4⟩ := p2 j zz hzz
                have hj : j < i.size := by rw [← p1]; exact (List.getElem?_eq_some_iff.1 hzz).1
                have hqy : q - len < ys.length := (List.getElem?_eq_some_iff.1 hy).1
                have e1 : q * i.size = len * i.size + (q - len) * i.size := by rw [← Nat.add_mul]; congr 1; omega
                have e2 : (q - len) * i.size + i.size ≤ ys.length * i.size := by rw [← Nat.succ_mul]; exact Nat.mul_le_mul_right _ hqy
                dsimp only
                refine ⟨by omega, by omega, fun u' hu' => ?_⟩
                rw [show l.base + off * i.size + q * i.size + j - (l.base + off * i.size + len * i.size) = (q - len) * i.size + j by omega, p3] at hu'
                exact (Option.some.inj hu') ▸ p4)
            refine ok_val' (hexec _ _ (by rw [hv, g2]; exact hrun)) ?_ hput
            have := Rel.sl (α := Asg.upd α id (ver + 1) ⟨l.b, l.base + off * i.size, i.size, l.N⟩) (Im := Im) (w := w.setCells l.b (l.base + off * i.size + len * i.size) cs) id (ver + 1) 0 (len + ys.length) cap ⟨l.b, l.base + off * i.size, i.size, l.N⟩ (upd_self _ _ _ _) hroom (by dsimp only; rw [Nat.zero_add]; rw [Nat.add_mul] at hN; omega)
            simpa using this
          · obtain ⟨olds, q1, q2⟩ := rows_read (α := α) (Im := Im) (w := w) (b := l.b) (base := l.base + off * l.sz) (sz := i.size) (xs := (xs.drop off).take len) (fun q y hy => by
              obtain ⟨p1, p2⟩ := g4 _ _ (hget q y hy)
              refine ⟨p1, fun j zz hzz => ?_⟩
              obtain ⟨u, p3, p4, p5⟩ := p2 j zz hzz
              refine ⟨u, ?_, p4, p5⟩
              rw [g2, show l.base + off * i.size + q * i.size + j = l.base + (off + q) * i.size + j by rw [Nat.add_mul]; omega]
              exact p3)
            refine grow l _ cap olds hl rfl (by omega) q1 ?_
            have hl' : olds.length = len * i.size := by rw [q1.1, holdlen]
            exact run_firstCells_some w.drew i.size len _ len cap olds hl' (fun k u hu => by rw [Addr.add_lit]; exact q2 k u hu)
      · trivial
    · trivial
  · trivial

theorem append_ok (hs : Sim α Im σ w) (hρ : ∀ x, Rel α Im w (ρ x) (a.eval x)) {t tx e e' : TypeId} {i : TypeInfo} {z : Value} {zs : List AVal} (ht : P.underlying t = some (.slice e)) (htx : P.underlying tx = some (.slice e')) (hi : P.info? e = some i) (hz : i.zero = some z) (hzz : cellsZ z = some zs) (hzs : zs.length = i.size) (hb0 : 0 < i.bytes) {c : Call} (ho : o.op = .call c) (hc : c.callee = .builtin .append) (htys : c.argTypes.toList = [t, tx]) {s x : Operand} (hargs : c.args.toList = [s, x]) :
    StepOk P o a w α Im σ (stepA ρ σ (.append i.size i.bytes zs s x)) := by
  have hzs' : z.cells.size = i.size := by rw [← hzs]; exact (cellsZ_spec (α := α) (Im := Im) (w := w) hzz).1.symm
  simp only [stepA]
  split
  · rename_i ys hsrc
    obtain ⟨cs, h1, h2⟩ := src_ok (P := P) hs htx (hρ x) hsrc
    exact appendA_ok hs ht hi hz hzs' hb0 ho hc (by apply Array.ext'; simpa using htys) (by apply Array.ext'; simpa using hargs) (hρ s) h1 h2
  · trivial

theorem appendStr_ok (hs : Sim α Im σ w) (hρ : ∀ x, Rel α Im w (ρ x) (a.eval x)) {t tx e : TypeId} {i : TypeInfo} {z : Value} {zs : List AVal} (ht : P.underlying t = some (.slice e)) (htx : P.underlying tx = some .string) (hi : P.info? e = some i) (hz : i.zero = some z) (hzz : cellsZ z = some zs) (hzs : zs.length = 1) (h1 : i.size = 1) (hb0 : 0 < i.bytes) {c : Call} (ho : o.op = .call c) (hc : c.callee = .builtin .append) (htys : c.argTypes.toList = [t, tx]) {s x : Operand} (hargs : c.args.toList = [s, x]) :
    StepOk P o a w α Im σ (stepA ρ σ (.appendStr i.bytes zs s x)) := by
  have hzs' : z.cells.size = i.size := by rw [h1, ← hzs]; exact (cellsZ_spec (α := α) (Im := Im) (w := w) hzz).1.symm
  simp only [stepA]
  split
  · rename_i b hb
    have hx := hρ x
    rw [hb] at hx
    have ex := rel_sc_inv hx
    obtain ⟨cs, g1, g2⟩ := bytes_src (P := P) (α := α) (Im := Im) (w := w) htx b
    rw [← h1] at g1 g2
    rw [← ex] at g2
    have := appendA_ok (ρ := ρ) hs ht hi hz hzs' hb0 ho hc (by apply Array.ext'; simpa using htys) (by apply Array.ext'; simpa using hargs) (hρ s) g1 g2
    rwa [h1] at this
  · trivial

end
end Go.Ab

/- Each abstract operation is what the model's operation does: part 6 (make, literals, '==' of structs and arrays), and all of them. -/
set_option linter.unusedVariables false
set_option linter.unusedSimpArgs false
namespace Go.Ab
section
variable {P : Program} {o : Oper} {a : Act} {w : World} {α : Asg} {Im : Nat → Prop} {σ : Store} {ρ : Operand → AVal}

theorem made_get {z : Array Value} {n k : Nat} (h : k < n) (hz : 0 < z.size) : (madeCells z n)[k]? = z[k % z.size]? := by
  have hlt : k % z.size < z.size := Nat.mod_lt _ hz
  simp [madeCells, h, hlt]

theorem made_rows {z : Value} {zs : List AVal} (hzz : cellsZ z = some zs) (h0 : 0 < zs.length) (n : Nat) : ∀ (i : Nat) (x : List AVal), (List.replicate n zs)[i]? = some x → x.length = zs.length ∧ ∀ (j : Nat) (y : AVal), x[j]? = some y →
    ∃ u, (madeCells z.cells (n * zs.length))[i * zs.length + j]? = some u ∧ u.oneCell' = true ∧ Rel α Im w y u := by
  obtain ⟨g1, g2⟩ := cellsZ_spec (α := α) (Im := Im) (w := w) hzz
  intro i x hx
  rw [List.getElem?_replicate] at hx
  split at hx
  · rename_i hi
    injection hx with hx
    subst hx
    refine ⟨rfl, fun j y hy => ?_⟩
    have hj := (List.getElem?_eq_some_iff.1 hy).1
    have hlt : i * zs.length + j < n * zs.length := by
      have : i * zs.length + zs.length ≤ n * zs.length := by rw [← Nat.succ_mul]; exact Nat.mul_le_mul_right _ hi
      omega
    rw [made_get hlt (by omega), ← g1, Nat.mul_add_mod_of_lt' hj]
    exact g2 j y hy
  · cases hx
where
  Nat.mul_add_mod_of_lt' {i j n : Nat} (h : j < n) : (i * n + j) % n = j := by
    rw [Nat.add_comm, Nat.add_mul_mod_self_right, Nat.mod_eq_of_lt h]

theorem makeSlice_ok (hs : Sim α Im σ w) (hρ : ∀ x, Rel α Im w (ρ x) (a.eval x)) {t e : TypeId} {i : TypeInfo} {z : Value} {zs : List AVal} {l c : Operand} (ho : o.op = .makeSlice t l c) (ht : P.underlying t = some (.slice e)) (hi : P.info? e = some i) (hz : i.zero = some z) (hzz : cellsZ z = some zs) (hzs : zs.length = i.size) (h0 : 0 < i.size) :
    StepOk P o a w α Im σ (stepA ρ σ (.makeSlice i.size i.bytes zs l c)) := by
  have hl := hρ l
  have hc := hρ c
  simp only [stepA]
  split
  · rename_i k n k' m hp hq
    rw [hp] at hl
    rw [hq] at hc
    have el := rel_sc_inv hl
    have ec := rel_sc_inv hc
    split
    · rename_i hcond
      obtain ⟨rfl, c0, c1, c2⟩ := hcond
      intro id hid hα
      have hb : (i.bytes : Int) * n ≤ 281474976710656 := by
        have : ((n.toNat * i.bytes : Nat) : Int) ≤ 281474976710656 := by omega
        rw [Int.natCast_mul, Int.toNat_of_nonneg c0, Int.mul_comm] at this
        exact this
      have hr := run_make (P := P) w t e i z ht hi hz k k' n n c0 (Int.le_refl _) hb c1
      have hsz : (madeCells z.cells (n.toNat * i.size)).size = n.toNat * i.size := size_madeCells _ _
      refine ok_new hs (w0 := w) rfl rfl rfl ⟨rfl, Nat.le_refl _⟩ hid hα (P := P) (o := o) (a := a) (k := fun id => .sl id 0 0 n.toNat i.size) (sz := i.size) (xs := List.replicate n.toNat zs) (arr := madeCells z.cells (n.toNat * i.size)) (e := e) (by rw [hsz, List.length_replicate]; exact Nat.le_refl _) (fun q y hy => ?_) (cv := .slice (some ⟨w.heap.size, 0, none⟩) n.toNat n.toNat) ?_ (fun β lc w' h1 h2 h3 h4 h5 => ?_)
      · have := made_rows (α := α) (Im := Im) (w := w) hzz (by omega) n.toNat q y hy
        rwa [hzs] at this
      · simp [execOp, ho, el, ec, hr]
      · have := Rel.sl (Im := Im) (w := w') id 0 0 n.toNat n.toNat lc h1 (Nat.le_refl _) (by rw [h3, h4, h5, hsz]; simp)
        rw [h4] at this
        simpa [h2, h3] using this
    · trivial
  · trivial

/-! ### Literals -/
theorem zipIdx_fold : ∀ (vs : List Value) (off k : Nat) (arr : Array Value), (vs.zipIdx k).foldl (fun cs (x : Value × Nat) => cs.setIfInBounds (off + x.2) x.1) arr = setArr arr (off + k) vs
  | [], _, _, _ => rfl
  | v :: r, off, k, arr => by
    rw [List.zipIdx_cons, List.foldl_cons, zipIdx_fold r off (k + 1)]
    rfl

theorem fill_cons (place : Nat → Option (Nat × Nat)) (cells : Array Value) (i : Nat) (v : Value) (r : List (Nat × Value)) {off sz : Nat} (hp : place i = some (off, sz)) (h1 : v.cells.size = sz) (h2 : off + sz ≤ cells.size) :
    Instr.fill place cells ((i, v) :: r) = Instr.fill place (setArr cells off v.cells.toList) r := by
  have e : v.cells.zipIdx.foldl (fun cs (x : Value × Nat) => cs.setIfInBounds (off + x.2) x.1) cells = setArr cells off v.cells.toList := by
    rw [← Array.foldl_toList, Array.toList_zipIdx, zipIdx_fold]
    rfl
  have hne : ¬ (v.cells.size ≠ sz || off + v.cells.size > cells.size) = true := by simp [h1]; omega
  rw [Instr.fill]
  simp only [hp]
  rw [if_neg hne]
  exact congrArg (fun q => Instr.fill place q r) e

/-- Cells of a struct or an array that is being built. -/
theorem build_fill (hρ : ∀ x, Rel α Im w (ρ x) (a.eval x)) (place : Nat → Option (Nat × Nat)) : ∀ (ps : List (Nat × Operand)) (qs : List (Nat × Nat × Operand)) (cs cs' : List AVal) (arr : Array Value), partsOf place ps = some qs → buildA ρ cs qs = some cs' →
    arr.size = cs.length → (∀ (j : Nat) v, arr[j]? = some v → v.oneCell' = true) → (∀ (j : Nat) x v, cs[j]? = some x → arr[j]? = some v → Rel α Im w x v) →
    ∃ arr', Instr.fill place arr (ps.map fun p => (p.1, a.eval p.2)) = some arr' ∧ arr'.size = cs'.length ∧ (∀ (j : Nat) v, arr'[j]? = some v → v.oneCell' = true) ∧ (∀ (j : Nat) x v, cs'[j]? = some x → arr'[j]? = some v → Rel α Im w x v)
  | [], qs, cs, cs', arr, hp, hb, h1, h2, h3 => by
    simp only [partsOf, Option.some.injEq] at hp
    subst hp
    simp only [buildA, Option.some.injEq] at hb
    subst hb
    exact ⟨arr, rfl, h1, h2, h3⟩
  | (i, x) :: r, qs, cs, cs', arr, hp, hb, h1, h2, h3 => by
    unfold partsOf at hp
    split at hp
    · rename_i off sz q hpl hq
      simp only [Option.some.injEq] at hp
      subst hp
      unfold buildA at hb
      split at hb
      · rename_i vs hk
        split at hb
        · rename_i hc
          obtain ⟨c1, c2⟩ := hc
          obtain ⟨k1, k2, k3⟩ := known_cells (hρ x) hk
          have hsz : (a.eval x).cells.size = sz := by rw [k1, c1]
          have hoff : off + (a.eval x).cells.toList.length ≤ arr.size := by rw [Array.length_toList, hsz, h1]; exact c2
          rw [List.map_cons, fill_cons place arr i (a.eval x) _ hpl hsz (by rw [h1]; exact c2)]
          refine build_fill hρ place r q _ cs' _ hq hb (by rw [size_setArr, length_setRange _ _ _ (by omega), h1]) (fun j v hv => ?_) (fun j y v hy hv => ?_)
          · rw [get_setArr _ _ _ _ hoff] at hv
            split at hv
            · exact k2 v (Array.mem_toList_iff.1 (List.mem_of_getElem? hv))
            · exact h2 _ _ hv
          · rw [get_setArr _ _ _ _ hoff] at hv
            rw [get_setRange _ _ _ _ (by omega)] at hy
            rw [Array.length_toList, k1] at hv
            split at hv
            · rename_i hj
              rw [if_pos hj] at hy
              exact k3 _ _ _ hy (by simpa using hv)
            · rename_i hj
              rw [if_neg hj] at hy
              exact h3 _ _ _ hy hv
        · cases hb
      · cases hb
    · cases hp

theorem build_struct_ok (hs : Sim α Im σ w) (hρ : ∀ x, Rel α Im w (ρ x) (a.eval x)) {t : TypeId} {ps : Array (Nat × Operand)} {fs : Array Field} {i : TypeInfo} {z : Value} {zs : List AVal} {pl : List (Nat × Nat)} {qs : List (Nat × Nat × Operand)} (ho : o.op = .build t ps) (hd : P.underlying t = some (.struct fs)) (hi : P.info? t = some i) (hz : i.zero = some z) (hpl : placesOf P fs = some pl) (hzz : cellsZ z = some zs) (hq : partsOf (fun k => pl[k]?) ps.toList = some qs) :
    StepOk P o a w α Im σ (stepA ρ σ (.build zs qs)) := by
  simp only [stepA, opt]
  split
  · rename_i v hv
    obtain ⟨cs, hb, rfl⟩ := Option.map_eq_some_iff.1 hv
    obtain ⟨g1, g2⟩ := cellsZ_spec (α := α) (Im := Im) (w := w) hzz
    obtain ⟨arr, f1, f2, f3, f4⟩ := build_fill hρ (fun k => pl[k]?) ps.toList qs zs cs z.cells hq hb g1.symm (fun j v hv => by
      have hj : j < zs.length := by rw [g1]; exact (Array.getElem?_eq_some_iff.1 hv).1
      obtain ⟨u, q1, q2, _⟩ := g2 j _ (List.getElem?_eq_getElem hj)
      rw [hv] at q1
      exact (Option.some.inj q1) ▸ q2) (fun j x v hx hv => by
      obtain ⟨u, q1, _, q3⟩ := g2 j x hx
      rw [hv] at q1
      exact (Option.some.inj q1) ▸ q3)
    refine ok_val hs (cv := .agg arr) ?_ (.agg _ _ f2 f3 f4)
    have f1' : Instr.fill (fun k => pl[k]?) z.cells (ps.map fun p => (p.1, a.eval p.2)).toList = some arr := by rw [Array.toList_map]; exact f1
    have f1'' : Instr.fill (fun x => pl.toArray[x]?) z.cells (ps.map fun p => (p.1, a.eval p.2)).toList = some arr := by simpa using f1'
    have hpl' := run_places w fs.toList pl hpl
    simp only [execOp, ho, Instr.build]
    simp [run_underlying hd, run_zeroValue hi hz, Array.mapM_eq_mapM_toList, hpl', f1]
  · trivial

theorem build_array_ok (hs : Sim α Im σ w) (hρ : ∀ x, Rel α Im w (ρ x) (a.eval x)) {t e : TypeId} {n : Nat} {ps : Array (Nat × Operand)} {i j : TypeInfo} {z : Value} {zs : List AVal} {qs : List (Nat × Nat × Operand)} (ho : o.op = .build t ps) (hd : P.underlying t = some (.array n e)) (hi : P.info? t = some i) (hz : i.zero = some z) (hj : P.info? e = some j) (hzz : cellsZ z = some zs) (hq : partsOf (fun k => some (k * j.size, j.size)) ps.toList = some qs) :
    StepOk P o a w α Im σ (stepA ρ σ (.build zs qs)) := by
  simp only [stepA, opt]
  split
  · rename_i v hv
    obtain ⟨cs, hb, rfl⟩ := Option.map_eq_some_iff.1 hv
    obtain ⟨g1, g2⟩ := cellsZ_spec (α := α) (Im := Im) (w := w) hzz
    obtain ⟨arr, f1, f2, f3, f4⟩ := build_fill hρ (fun k => some (k * j.size, j.size)) ps.toList qs zs cs z.cells hq hb g1.symm (fun j v hv => by
      have hj : j < zs.length := by rw [g1]; exact (Array.getElem?_eq_some_iff.1 hv).1
      obtain ⟨u, q1, q2, _⟩ := g2 j _ (List.getElem?_eq_getElem hj)
      rw [hv] at q1
      exact (Option.some.inj q1) ▸ q2) (fun j x v hx hv => by
      obtain ⟨u, q1, _, q3⟩ := g2 j x hx
      rw [hv] at q1
      exact (Option.some.inj q1) ▸ q3)
    refine ok_val hs (cv := .agg arr) ?_ (.agg _ _ f2 f3 f4)
    simp only [execOp, ho, Instr.build]
    simp [run_underlying hd, run_zeroValue hi hz, run_sizeOf hj, f1]
  · trivial

/-- Rows of a slice that is being built. -/
theorem buildRows_fill (hρ : ∀ x, Rel α Im w (ρ x) (a.eval x)) (sz : Nat) : ∀ (ps : List (Nat × Operand)) (xs xs' : List (List AVal)) (arr : Array Value), buildRows ρ sz xs ps = some xs' → arr.size = xs.length * sz →
    (∀ (i : Nat) (x : List AVal), xs[i]? = some x → x.length = sz ∧ ∀ (j : Nat) (y : AVal), x[j]? = some y → ∃ u, arr[i * sz + j]? = some u ∧ u.oneCell' = true ∧ Rel α Im w y u) →
    ∃ arr', Instr.fill (fun i => some (i * sz, sz)) arr (ps.map fun p => (p.1, a.eval p.2)) = some arr' ∧ arr'.size = xs'.length * sz ∧ xs'.length = xs.length ∧
      (∀ (i : Nat) (x : List AVal), xs'[i]? = some x → x.length = sz ∧ ∀ (j : Nat) (y : AVal), x[j]? = some y → ∃ u, arr'[i * sz + j]? = some u ∧ u.oneCell' = true ∧ Rel α Im w y u)
  | [], xs, xs', arr, hb, h1, h2 => by
    simp only [buildRows, Option.some.injEq] at hb
    subst hb
    exact ⟨arr, rfl, h1, rfl, h2⟩
  | (i, x) :: r, xs, xs', arr, hb, h1, h2 => by
    unfold buildRows at hb
    split at hb
    · rename_i vs hk
      split at hb
      · rename_i hc
        obtain ⟨c1, c2⟩ := hc
        obtain ⟨k1, k2, k3⟩ := known_cells (hρ x) hk
        have hsz : (a.eval x).cells.size = sz := by rw [k1, c1]
        have hmul : i * sz + sz ≤ xs.length * sz := by rw [← Nat.succ_mul]; exact Nat.mul_le_mul_right _ c2
        have hoff : i * sz + (a.eval x).cells.toList.length ≤ arr.size := by rw [Array.length_toList, hsz, h1]; exact hmul
        rw [List.map_cons, fill_cons _ arr i (a.eval x) _ rfl hsz (by rw [h1]; exact hmul)]
        obtain ⟨arr', f1, f2, f3, f4⟩ := buildRows_fill hρ sz r _ xs' (setArr arr (i * sz) (a.eval x).cells.toList) hb (by rw [size_setArr, List.length_set, h1]) (fun q y hy => by
          rw [List.getElem?_set] at hy
          by_cases e : i = q
          · subst e
            rw [if_pos rfl, if_pos c2] at hy
            injection hy with hy
            subst hy
            refine ⟨c1, fun j z hz => ?_⟩
            have hj : j < sz := by rw [← c1]; exact (List.getElem?_eq_some_iff.1 hz).1
            rw [get_setArr _ _ _ _ hoff, Array.length_toList, hsz, if_pos (by omega)]
            have hlt : j < (a.eval x).cells.size := by rw [hsz]; exact hj
            refine ⟨(a.eval x).cells[j], by rw [show i * sz + j - i * sz = j by omega]; simp [hlt], k2 _ (Array.getElem_mem hlt), k3 _ _ _ hz (Array.getElem?_eq_getElem hlt)⟩
          · rw [if_neg e] at hy
            obtain ⟨p1, p2⟩ := h2 q y hy
            refine ⟨p1, fun j z hz => ?_⟩
            have hj : j < sz := by rw [← p1]; exact (List.getElem?_eq_some_iff.1 hz).1
            rw [get_setArr _ _ _ _ hoff, Array.length_toList, hsz, if_neg ?_]
            · exact p2 j z hz
            · rcases Nat.lt_or_ge q i with h | h
              · have : q * sz + sz ≤ i * sz := by rw [← Nat.succ_mul]; exact Nat.mul_le_mul_right _ h
                omega
              · have : i * sz + sz ≤ q * sz := by rw [← Nat.succ_mul]; exact Nat.mul_le_mul_right _ (by omega)
                omega)
        exact ⟨arr', f1, f2, by rw [f3, List.length_set], f4⟩
      · cases hb
    · cases hb

theorem buildSlice_ok (hs : Sim α Im σ w) (hρ : ∀ x, Rel α Im w (ρ x) (a.eval x)) {t e : TypeId} {len : Nat} {ps : Array (Nat × Operand)} {i : TypeInfo} {z : Value} {zs : List AVal} (ho : o.op = .buildSlice t len ps) (ht : P.underlying t = some (.slice e)) (hi : P.info? e = some i) (hz : i.zero = some z) (hzz : cellsZ z = some zs) (hzs : zs.length = i.size) (h0 : 0 < i.size) (hlen : len * i.size ≤ 16777216) :
    StepOk P o a w α Im σ (stepA ρ σ (.buildSlice i.size len zs ps.toList)) := by
  simp only [stepA]
  split
  · rename_i xs hb
    intro id hid hα
    have hsz : (madeCells z.cells (len * i.size)).size = len * i.size := size_madeCells _ _
    obtain ⟨arr, f1, f2, f3, f4⟩ := buildRows_fill hρ i.size ps.toList (List.replicate len zs) xs (madeCells z.cells (len * i.size)) hb (by rw [hsz, List.length_replicate]) (fun q y hy => by
      have := made_rows (α := α) (Im := Im) (w := w) hzz (by omega) len q y hy
      rwa [hzs] at this)
    rw [List.length_replicate] at f3
    refine ok_new hs (w0 := w) rfl rfl rfl ⟨rfl, Nat.le_refl _⟩ hid hα (P := P) (o := o) (a := a) (k := fun id => .sl id 0 0 len i.size) (sz := i.size) (xs := xs) (arr := arr) (e := e) (by rw [f2]; exact Nat.le_refl _) f4 (cv := .slice (some ⟨w.heap.size, 0, none⟩) len len) ?_ (fun β lc w' h1 h2 h3 h4 h5 => ?_)
    · have hle : ¬ (16777216 < len * i.size) := by omega
      have f1' : Instr.fill (fun k => some (k * i.size, i.size)) ((Array.range (len * i.size)).map (z.cells[· % z.cells.size]!)) (ps.toList.map fun p => (p.1, a.eval p.2)) = some arr := f1
      simp only [execOp, ho, Instr.buildSlice]
      by_cases hl : len = 0
      · subst hl
        rw [Nat.zero_mul, Array.range_zero', Array.map_empty] at f1'
        simp [run_underlying ht, run_sizeOf hi, Array.range_zero', f1', newRow]
      · have h0' : ¬ i.size = 0 := by omega
        have hne : ¬ len * i.size = 0 := fun e => by rcases Nat.mul_eq_zero.1 e with e | e <;> omega
        simp [run_underlying ht, run_sizeOf hi, hle, hl, h0', run_zeroValue hi hz, f1', newRow]
        exact fun e => absurd e hne
    · have := Rel.sl (Im := Im) (w := w') id 0 0 len len lc h1 (Nat.le_refl _) (by rw [h3, h4, h5, f2, f3]; simp)
      rw [h4] at this
      simpa [h2, h3] using this
  · trivial

end
end Go.Ab

/- '==' of structs and arrays; each abstract operation is what the model's operation does. -/
set_option linter.unusedVariables false
set_option linter.unusedSimpArgs false
namespace Go.Ab
section
variable {P : Program} {o : Oper} {a : Act} {w : World} {α : Asg} {Im : Nat → Prop} {σ : Store} {ρ : Operand → AVal}

def eqVals : List Nat → List Value → List Value → Option Bool
  | [], [], [] => some true
  | k :: ks, a :: x, b :: y => match eqK k a b, eqVals ks x y with
    | some p, some q => some (p && q)
    | _, _ => none
  | _, _, _ => none

theorem eqVals_len : ∀ {ks : List Nat} {x y : List Value} {b : Bool}, eqVals ks x y = some b → x.length = ks.length ∧ y.length = ks.length
  | [], [], [], _, _ => ⟨rfl, rfl⟩
  | k :: ks, a :: x, c :: y, b, h => by
    unfold eqVals at h
    split at h
    · rename_i q hq
      obtain ⟨h1, h2⟩ := eqVals_len hq
      exact ⟨by simp [h1], by simp [h2]⟩
    · cases h
  | [], [], _ :: _, _, h => by cases h
  | [], _ :: _, _, _, h => by cases h
  | _ :: _, [], _, _, h => by cases h
  | _ :: _, _ :: _, [], _, h => by cases h

theorem eqVals_append : ∀ (ks ls : List Nat) (x y : List Value) (b : Bool), eqVals (ks ++ ls) x y = some b →
    ∃ p q, eqVals ks (x.take ks.length) (y.take ks.length) = some p ∧ eqVals ls (x.drop ks.length) (y.drop ks.length) = some q ∧ b = (p && q)
  | [], ls, x, y, b, h => ⟨true, b, by simp [eqVals], by simpa using h, by simp⟩
  | k :: ks, ls, x, y, b, h => by
    match x, y, h with
    | a :: x, c :: y, h =>
      simp only [List.cons_append, eqVals] at h
      split at h
      · rename_i p q hp hq
        injection h with h
        obtain ⟨p', q', h1, h2, h3⟩ := eqVals_append ks ls x y q hq
        exact ⟨p && p', q', by simp [eqVals, hp, h1], by simpa using h2, by rw [← h, h3, Bool.and_assoc]⟩
      · cases h
    | [], [], h => simp [eqVals] at h
    | [], _ :: _, h => simp [eqVals] at h
    | _ :: _, [], h => simp [eqVals] at h

theorem extract_toList (xs : Array Value) (off n : Nat) : (xs.extract off (off + n)).toList = (xs.toList.drop off).take n := by
  simp [List.extract_eq_take_drop]

theorem take_drop_take {β : Type} (l : List β) (off n k : Nat) (h : k ≤ n) : (((l.drop off).take n).take k) = (l.drop off).take k := by
  rw [List.take_take, Nat.min_eq_left h]

theorem drop_take_drop {β : Type} (l : List β) (off n k : Nat) : (((l.drop off).take n).drop k) = (l.drop (off + k)).take (n - k) := by
  rw [List.drop_take, List.drop_drop]

theorem eq_part : ∀ (d : Nat) (t : TypeId) (ks : List Nat), flatEq P d t = some ks → ∀ (D : Nat) (xs ys : Array Value) (off : Nat) (b : Bool),
    eqVals ks ((xs.toList.drop off).take ks.length) ((ys.toList.drop off).take ks.length) = some b →
    ∃ p q, (part t xs off).run P w = .ok p w ∧ (part t ys off).run P w = .ok q w ∧ (Op.equalIn (d + D) t p q).run P w = .ok b w := by
  intro d
  induction d with
  | zero => intro t ks h; simp [flatEq] at h
  | succ d ih =>
    intro t ks h D xs ys off b hb
    have e : d + 1 + D = (d + D) + 1 := by omega
    rw [e]
    -- a scalar
    have scalar_case : ∀ k, ks = [k] → (∀ dd, P.underlying t = some dd → isAggD dd = false) → (∃ dd, P.underlying t = some dd) → (∀ x y, eqK k x y = some b → (Op.equalIn (d + D + 1) t x y).run P w = .ok b w) →
        ∃ p q, (part t xs off).run P w = .ok p w ∧ (part t ys off).run P w = .ok q w ∧ (Op.equalIn (d + D + 1) t p q).run P w = .ok b w := by
      intro k hk hna hex heq
      subst hk
      obtain ⟨l1, l2⟩ := eqVals_len hb
      have g : ∀ (zs : Array Value), ((zs.toList.drop off).take 1).length = 1 → ∃ v, zs[off]? = some v ∧ (zs.toList.drop off).take 1 = [v] := fun zs hl => by
        have hlt : off < zs.size := by
          rw [List.length_take, List.length_drop, Array.length_toList] at hl
          omega
        refine ⟨zs[off], Array.getElem?_eq_getElem hlt, ?_⟩
        rw [List.drop_eq_getElem_cons (by simpa using hlt)]
        simp
      obtain ⟨x, hx, ex⟩ := g xs l1
      obtain ⟨y, hy, ey⟩ := g ys l2
      simp only [List.length_singleton] at hb
      rw [ex, ey] at hb
      simp only [eqVals] at hb
      split at hb
      · rename_i p q hp hq
        simp only [Option.some.injEq] at hb hq
        subst hq
        rw [Bool.and_true] at hb
        subst hb
        obtain ⟨dd, hdd⟩ := hex
        have hn := hna dd hdd
        refine ⟨x, y, ?_, ?_, heq x y hp⟩
        · cases dd <;> simp [isAggD] at hn <;> simp [part, isAgg, run_underlying hdd, hx]
        · cases dd <;> simp [isAggD] at hn <;> simp [part, isAgg, run_underlying hdd, hy]
      · cases hb
    have agg_part : ∀ dd i, P.underlying t = some dd → isAggD dd = true → P.info? t = some i → i.size = ks.length → ∀ zs : Array Value, (part t zs off).run P w = .ok (.agg (zs.extract off (off + ks.length))) w := by
      intro dd i hdd ha hi hsz zs
      cases dd <;> simp [isAggD] at ha <;> simp [part, isAgg, run_underlying hdd, run_sizeOf hi, hsz]
    unfold flatEq at h
    split at h
    · rename_i kk i hu hi
      split at h
      · injection h with h
        refine scalar_case 0 h.symm (fun dd hd => by rw [hu] at hd; cases hd; rfl) ⟨_, hu⟩ (fun x y hxy => ?_)
        unfold eqK at hxy
        split at hxy <;> first | cases ‹(0 : Nat) = _› | skip
        · split at hxy
          · rename_i hk
            subst hk
            injection hxy with hxy
            subst hxy
            exact run_equalIn_int w _ t _ _ _ _ hu
          · cases hxy
        all_goals first | cases hxy | (rename_i hh _; cases hh)
      · cases h
    · rename_i i hu hi
      split at h
      · injection h with h
        refine scalar_case 1 h.symm (fun dd hd => by rw [hu] at hd; cases hd; rfl) ⟨_, hu⟩ (fun x y hxy => ?_)
        cases x <;> cases y <;> simp [eqK] at hxy
        subst hxy
        have := run_equalIn_b (w := w) (d + D) hu
        exact this _ _
      · cases h
    · rename_i i hu hi
      split at h
      · injection h with h
        refine scalar_case 2 h.symm (fun dd hd => by rw [hu] at hd; cases hd; rfl) ⟨_, hu⟩ (fun x y hxy => ?_)
        cases x <;> cases y <;> simp [eqK] at hxy
        subst hxy
        simpa using run_equalIn_string w (d + D) t _ _ hu
      · cases h
    · rename_i fs i hu hi
      split at h
      · cases h
      · rename_i hst
        split at h
        · rename_i n hn
          split at h
          · rename_i hsz
            injection h with h
            subst h
            refine ⟨_, _, agg_part _ i hu rfl hi hsz xs, agg_part _ i hu rfl hi hsz ys, ?_⟩
            have hfs : P.fieldsOf t = fs := by simp [Program.fieldsOf, hu]
            rw [run_equalIn_struct w (d + D) t _ _ (by rw [hfs]; exact hu) (by simpa using hst), hfs]
            -- field by field
            have key : ∀ (l : List Field) (m : Nat) (ls : List Nat) (b : Bool), flatFields (flatEq P d) l m = some ls → eqVals ls (((xs.extract off (off + n.length)).toList.drop m).take ls.length) (((ys.extract off (off + n.length)).toList.drop m).take ls.length) = some b →
                (Op.eqFields (d + D) (xs.extract off (off + n.length)) (ys.extract off (off + n.length)) l).run P w = .ok b w := by
              intro l
              induction l with
              | nil =>
                intro m ls b hl hb
                simp only [flatFields, Option.some.injEq] at hl
                subst hl
                simp [eqVals] at hb
                simp [Op.eqFields, hb]
              | cons f l ihl =>
                intro m ls b hl hb
                unfold flatFields at hl
                split at hl
                · rename_i hc
                  simp only [Bool.and_eq_true, bne_iff_ne, ne_eq, beq_iff_eq] at hc
                  obtain ⟨c1, c2⟩ := hc
                  split at hl
                  · rename_i m' hm'
                    obtain ⟨ls', hl', rfl⟩ := Option.map_eq_some_iff.1 hl
                    obtain ⟨p, q, h1, h2, rfl⟩ := eqVals_append m' ls' _ _ b hb
                    rw [take_drop_take _ _ _ _ (by simp), take_drop_take _ _ _ _ (by simp)] at h1
                    rw [drop_take_drop, drop_take_drop, show (m' ++ ls').length - m'.length = ls'.length by simp] at h2
                    obtain ⟨u, v, k1, k2, k3⟩ := ih f.type m' hm' D (xs.extract off (off + n.length)) (ys.extract off (off + n.length)) m p h1
                    have := ihl _ ls' q hl' h2
                    simp only [Op.eqFields]
                    rw [if_pos c1, c2]
                    simp only [Sem.run_bind, k1, k2, k3, Result.andThen_ok]
                    cases p
                    · simp
                    · simpa using this
                  · cases hl
                · cases hl
            refine key fs.toList 0 n b hn ?_
            rw [extract_toList, extract_toList]
            simp only [List.drop_zero, List.take_take, Nat.min_self]
            exact hb
          · cases h
        · cases h
    · rename_i k e' i hu hi
      split at h
      · rename_i n hn
        split at h
        · rename_i hsz
          injection h with h
          have hlen : ks.length = k * n.length := by rw [← h]; simp
          obtain ⟨j, hj⟩ : ∃ j, P.info? e' = some j := by
            cases d with
            | zero => simp [flatEq] at hn
            | succ d =>
              unfold flatEq at hn
              cases hj : P.info? e' with
              | none => rw [hj] at hn; simp at hn
              | some j => exact ⟨j, rfl⟩
          refine ⟨_, _, agg_part _ i hu rfl hi (by rw [hlen]; exact hsz.1) xs, agg_part _ i hu rfl hi (by rw [hlen]; exact hsz.1) ys, ?_⟩
          rw [run_equalIn_array w (d + D) _ _ hu hj, hsz.2, List.range_eq_range']
          have key : ∀ (r s : Nat) (b : Bool), eqVals (List.replicate r n).flatten (((xs.extract off (off + ks.length)).toList.drop (s * n.length)).take (r * n.length)) (((ys.extract off (off + ks.length)).toList.drop (s * n.length)).take (r * n.length)) = some b →
              (Op.eqItems (d + D) e' n.length (xs.extract off (off + ks.length)) (ys.extract off (off + ks.length)) (List.range' s r)).run P w = .ok b w := by
            intro r
            induction r with
            | zero =>
              intro s b hb
              simp [eqVals] at hb
              simp [Op.eqItems, hb]
            | succ r ihr =>
              intro s b hb
              rw [List.replicate_succ, List.flatten_cons] at hb
              obtain ⟨p, q, h1, h2, rfl⟩ := eqVals_append n _ _ _ b hb
              rw [take_drop_take _ _ _ _ (by rw [Nat.add_mul]; omega), take_drop_take _ _ _ _ (by rw [Nat.add_mul]; omega)] at h1
              rw [drop_take_drop, drop_take_drop, show (r + 1) * n.length - n.length = r * n.length by rw [Nat.add_mul]; omega, show s * n.length + n.length = (s + 1) * n.length by rw [Nat.add_mul]; omega] at h2
              obtain ⟨u, v, k1, k2, k3⟩ := ih e' n hn D (xs.extract off (off + ks.length)) (ys.extract off (off + ks.length)) (s * n.length) p h1
              have := ihr (s + 1) q h2
              rw [List.range'_succ]
              simp only [Op.eqItems, Sem.run_bind, k1, k2, k3, Result.andThen_ok]
              cases p
              · simp
              · simpa using this
          refine key k 0 b ?_
          rw [extract_toList, extract_toList, ← hlen]
          simp only [Nat.zero_mul, List.drop_zero, List.take_take, Nat.min_self]
          rw [h]
          exact hb
        · cases h
      · cases h
    · cases h

theorem cells_vals : ∀ (ks : List Nat) (x y : List AVal) (b : Bool), eqCells ks x y = some b → ∀ (u v : List Value), u.length = x.length → v.length = y.length → (∀ (i : Nat) c e, x[i]? = some c → u[i]? = some e → Rel α Im w c e) → (∀ (i : Nat) c e, y[i]? = some c → v[i]? = some e → Rel α Im w c e) → eqVals ks u v = some b
  | [], [], [], b, h, u, v, hu, hv, _, _ => by
    obtain rfl := List.eq_nil_of_length_eq_zero hu
    obtain rfl := List.eq_nil_of_length_eq_zero hv
    simpa [eqVals, eqCells] using h
  | k :: ks, .sc p :: x, .sc q :: y, b, h, u :: us, v :: vs, hu, hv, hr, hs => by
    have e1 := rel_sc_inv (hr 0 _ _ rfl rfl)
    have e2 := rel_sc_inv (hs 0 _ _ rfl rfl)
    subst e1 e2
    simp only [eqCells] at h
    split at h
    · rename_i p' q' hp hq
      have := cells_vals ks x y q' hq us vs (by simpa using hu) (by simpa using hv) (fun i c e h1 h2 => hr (i + 1) c e h1 h2) (fun i c e h1 h2 => hs (i + 1) c e h1 h2)
      simp only [eqVals, hp, this]
      exact h
    · cases h

theorem eqAgg_ok (hs : Sim α Im σ w) (hρ : ∀ x, Rel α Im w (ρ x) (a.eval x)) {t u : TypeId} {op : BinOp} {x y : Operand} {d : TypeDesc} {ks : List Nat} (hop : op = .eql ∨ op = .neq) (ho : o.op = .binOp op t x y u) (hd : P.underlying t = some d) (ha : isAggD d = true) (hk : flatEq P 10 t = some ks) (hg : P.eqGuardType P.depth t = false) :
    StepOk P o a w α Im σ (stepA ρ σ (.eqAgg (op == .neq) ks x y)) := by
  have hx := hρ x
  have hy := hρ y
  simp only [stepA]
  split
  · rename_i p q hp hq
    rw [hp] at hx
    rw [hq] at hy
    generalize hvx : a.eval x = vx at hx
    generalize hvy : a.eval y = vy at hy
    cases hx with
    | agg _ us hsz h1 hr =>
      cases hy with
      | agg _ vs hsz' h1' hr' =>
        unfold opt
        split
        · rename_i v hv
          obtain ⟨b, hb, rfl⟩ := Option.map_eq_some_iff.1 hv
          have hvals := cells_vals ks p q b hb us.toList vs.toList (by simpa using hsz) (by simpa using hsz') (fun i c e h1 h2 => hr i c e h1 (by simpa using h2)) (fun i c e h1 h2 => hr' i c e h1 (by simpa using h2))
          obtain ⟨l1, l2⟩ := eqVals_len hvals
          obtain ⟨c1, c2, q1, q2, q3⟩ := eq_part (P := P) (w := w) 10 t ks hk 9990 us vs 0 b (by
            simp only [List.drop_zero]
            rw [List.take_of_length_le (by omega), List.take_of_length_le (by omega)]
            exact hvals)
          have part_all : ∀ (zs : Array Value) c, zs.toList.length = ks.length → (part t zs 0).run P w = .ok c w → c = .agg zs := by
            intro zs c hl hp
            have hl' : zs.size = ks.length := by simpa using hl
            cases hi : P.info? t with
            | none =>
              cases d <;> simp [isAggD] at ha <;> simp [part, isAgg, run_underlying hd, sizeOf, typeInfo, hi] at hp
            | some i =>
              have hsz : i.size = ks.length := by
                unfold flatEq at hk
                rw [hi] at hk
                cases d <;> simp [isAggD] at ha <;> simp only [hd] at hk
                · split at hk
                  · rename_i n hn
                    split at hk
                    · rename_i hc
                      injection hk with hk
                      rw [← hk, hc.1]
                      simp
                    · cases hk
                  · cases hk
                · split at hk
                  · cases hk
                  · split at hk
                    · split at hk
                      · rename_i hc
                        injection hk with hk
                        rw [← hk, hc]
                      · cases hk
                    · cases hk
              cases d <;> simp [isAggD] at ha <;> simp [part, isAgg, run_underlying hd, run_sizeOf hi, hsz, ← hl'] at hp <;> exact hp.symm
          rw [part_all us c1 l1 q1, part_all vs c2 l2 q2] at q3
          have heq : (Op.equal t (.agg us) (.agg vs)).run P w = .ok b w := q3
          have hgd : (eqGuard op t x y (a.eval x) (a.eval y)).run P w = .ok () w := by rw [hvx, hvy]; exact run_eqGuard_agg w op t x y us vs hg
          rcases hop with rfl | rfl
          · exact ok_val hs (run_binop ho hgd (cv := .bool b) (by rw [hvx, hvy]; simp [binOp, heq])) (by simp only [negB]; exact Rel.sc _ rfl)
          · exact ok_val hs (run_binop ho hgd (cv := .bool (!b)) (by rw [hvx, hvy]; simp [binOp, heq])) (by simp only [negB]; exact Rel.sc _ rfl)
        · trivial
  · trivial

end
end Go.Ab

/- Maps, 'cap' of nil, 'append(nil, make(..)..)'; each abstract operation is what the model's operation does. -/
set_option linter.unusedVariables false
set_option linter.unusedSimpArgs false
namespace Go.Ab
open Go.MapKept (run_checkKey run_findKey heap_set)
open Go.Lib (bytes_beq_iff bytes_beq_false_iff)
section
variable {P : Program} {o : Oper} {a : Act} {w : World} {α : Asg} {Im : Nat → Prop} {σ : Store} {ρ : Operand → AVal}

/-- '==' of two values of a flat type. -/
theorem run_equal_flat {t : TypeId} {d : TypeDesc} {ks : List Nat} (hd : P.underlying t = some d) (ha : isAggD d = true) (hk : flatEq P 10 t = some ks) {us vs : Array Value} {b : Bool} (hvals : eqVals ks us.toList vs.toList = some b) : (Op.equal t (.agg us) (.agg vs)).run P w = .ok b w := by
  obtain ⟨l1, l2⟩ := eqVals_len hvals
  obtain ⟨c1, c2, q1, q2, q3⟩ := eq_part (P := P) (w := w) 10 t ks hk 9990 us vs 0 b (by
    simp only [List.drop_zero]
    rw [List.take_of_length_le (by omega), List.take_of_length_le (by omega)]
    exact hvals)
  have part_all : ∀ (zs : Array Value) c, zs.toList.length = ks.length → (part t zs 0).run P w = .ok c w → c = .agg zs := by
    intro zs c hl hp
    have hl' : zs.size = ks.length := by simpa using hl
    cases hi : P.info? t with
    | none =>
      cases d <;> simp [isAggD] at ha <;> simp [part, isAgg, run_underlying hd, sizeOf, typeInfo, hi] at hp
    | some i =>
      have hsz : i.size = ks.length := by
        unfold flatEq at hk
        rw [hi] at hk
        cases d <;> simp [isAggD] at ha <;> simp only [hd] at hk
        · split at hk
          · rename_i n hn
            split at hk
            · rename_i hc
              injection hk with hk
              rw [← hk, hc.1]
              simp
            · cases hk
          · cases hk
        · split at hk
          · cases hk
          · split at hk
            · split at hk
              · rename_i hc
                injection hk with hk
                rw [← hk, hc]
              · cases hk
            · cases hk
      cases d <;> simp [isAggD] at ha <;> simp [part, isAgg, run_underlying hd, run_sizeOf hi, hsz, ← hl'] at hp <;> exact hp.symm
  rw [part_all us c1 l1 q1, part_all vs c2 l2 q2] at q3
  exact q3

/-! ### Keys -/
def valsOf (ag : Bool) (v : Value) : List Value := if ag then (match v with | .agg vs => vs.toList | _ => []) else [v]

theorem key_vals {ag : Bool} {x : AVal} {kc : List AVal} {v : Value} (h : keyC ag x = some kc) (hr : Rel α Im w x v) :
    (valsOf ag v).length = kc.length ∧ (∀ (i : Nat) c e, kc[i]? = some c → (valsOf ag v)[i]? = some e → Rel α Im w c e) ∧ (ag = true → ∃ vs, v = .agg vs) := by
  cases x <;> simp only [keyC] at h <;> try (cases h; done)
  · split at h
    · cases h
    · rename_i hag
      injection h with h
      subst h
      have hag' : ag = false := by simpa using hag
      subst hag'
      refine ⟨rfl, fun i c e h1 h2 => ?_, fun h => (by cases h)⟩
      cases i with
      | zero => simp [valsOf] at h1 h2; subst h1; subst h2; exact hr
      | succ i => simp at h1
  · split at h
    · rename_i hag
      injection h with h
      subst h
      subst hag
      cases hr with
      | agg _ vs hs h1 hr =>
        exact ⟨by simpa [valsOf] using hs, fun i c e g1 g2 => hr i c e g1 (by simpa [valsOf] using g2), fun _ => ⟨_, rfl⟩⟩
    · cases h

theorem key_eq {ag : Bool} {ks : List Nat} {x y : AVal} {kc kd : List AVal} {u v : Value} {b : Bool} (hx : keyC ag x = some kc) (hy : keyC ag y = some kd) (hxr : Rel α Im w x u) (hyr : Rel α Im w y v) (h : eqCells ks kc kd = some b) : eqVals ks (valsOf ag u) (valsOf ag v) = some b := by
  obtain ⟨h1, h2, _⟩ := key_vals hx hxr
  obtain ⟨h3, h4, _⟩ := key_vals hy hyr
  exact cells_vals ks kc kd b h _ _ h1 h3 h2 h4

theorem eqK_same {k : Nat} {x y : Value} (h : eqK k x y = some true) : x = y := by
  unfold eqK at h
  split at h
  · split at h
    · rename_i e
      simp only [Option.some.injEq, beq_iff_eq] at h
      rw [e, h]
    · cases h
  · simp only [Option.some.injEq, beq_iff_eq] at h; rw [h]
  · simp only [Option.some.injEq] at h
    rw [(bytes_beq_iff _ _).1 h]
  · cases h
theorem eqK_bits {k : Nat} {x y : Value} {b : Bool} (h : eqK k x y = some b) (n : Nat) : Instr.sameBits n x x = true := by
  unfold eqK at h
  split at h
  · simp [Instr.sameBits]
  · simp [Instr.sameBits]
  · simp only [Instr.sameBits]; exact (MapKept.bytes_beq _ _).2 rfl
  · cases h
theorem eqVals_same : ∀ {ks : List Nat} {x y : List Value}, eqVals ks x y = some true → x = y
  | [], [], [], _ => rfl
  | k :: ks, a :: x, c :: y, h => by
    unfold eqVals at h
    split at h
    · rename_i p q hp hq
      simp only [Option.some.injEq, Bool.and_eq_true] at h
      rw [h.1] at hp
      rw [h.2] at hq
      rw [eqK_same hp, eqVals_same hq]
    · cases h
  | [], [], _ :: _, h => by cases h
  | [], _ :: _, _, h => by cases h
  | _ :: _, [], _, h => by cases h
  | _ :: _, _ :: _, [], h => by cases h
theorem eqVals_bits : ∀ {ks : List Nat} {x y : List Value} {b : Bool}, eqVals ks x y = some b → ∀ n, ∀ v ∈ x, Instr.sameBits n v v = true
  | [], [], [], _, _, _ => by simp
  | k :: ks, a :: x, c :: y, b, h, n => by
    unfold eqVals at h
    split at h
    · rename_i p q hp hq
      intro v hv
      rcases List.mem_cons.1 hv with rfl | hv
      · exact eqK_bits hp n
      · exact eqVals_bits hq n v hv
    · cases h
  | [], [], _ :: _, _, h, _ => by cases h
  | [], _ :: _, _, _, h, _ => by cases h
  | _ :: _, [], _, _, h, _ => by cases h
  | _ :: _, _ :: _, [], _, h, _ => by cases h

/-- The old key and the new one are one. -/
theorem same_keys {ag : Bool} {ks : List Nat} {u v : Value} (hu : ag = true → ∃ us, u = .agg us) (hv : ag = true → ∃ vs, v = .agg vs) (h : eqVals ks (valsOf ag u) (valsOf ag v) = some true) : u = v ∧ Instr.sameBits 10000 v v = true := by
  have e := eqVals_same h
  have hb := eqVals_bits h
  cases ag with
  | false =>
    simp only [valsOf, Bool.false_eq_true, if_false, List.cons.injEq, and_true] at e
    subst e
    exact ⟨rfl, hb 10000 u (by simp [valsOf])⟩
  | true =>
    obtain ⟨us, rfl⟩ := hu rfl
    obtain ⟨vs, rfl⟩ := hv rfl
    simp only [valsOf, if_true] at e
    have e' : us = vs := Array.toList_inj.1 e
    subst e'
    refine ⟨rfl, ?_⟩
    rw [show (10000 : Nat) = 9999 + 1 from rfl, Instr.sameBits]
    simp only [beq_self_eq_true, Bool.true_and, List.all_eq_true]
    rintro ⟨p, q⟩ hm
    have hpq : p = q ∧ p ∈ us.toList := by
      obtain ⟨i, hi⟩ := List.getElem?_of_mem hm
      rw [List.getElem?_zip_eq_some] at hi
      have := hi.1.symm.trans hi.2
      exact ⟨Option.some.inj this, List.mem_of_getElem? hi.1⟩
    obtain ⟨rfl, hp⟩ := hpq
    exact hb 9999 p (by simpa [valsOf] using hp)

theorem run_check {kt : TypeId} {ag : Bool} {ks : List Nat} {v : Value} (hk : keyKs P kt = some (ag, ks)) (hv : ag = true → ∃ vs, v = .agg vs) (h : (eqVals ks (valsOf ag v) (valsOf ag v)).isSome = true) (em : Bool) : (Instr.checkKey em 10000 kt v).run P w = .ok () w := by
  obtain ⟨b, hb⟩ := Option.isSome_iff_exists.1 h
  unfold keyKs at hk
  split at hk
  · rename_i k hu
    injection hk with hk
    cases hk
    simp only [valsOf, Bool.false_eq_true, if_false, eqVals] at hb
    cases v <;> simp [eqK] at hb
    rw [show (10000 : Nat) = 9999 + 1 from rfl, Instr.checkKey]
    simp [run_underlying hu]
  · rename_i hu
    injection hk with hk
    cases hk
    simp only [valsOf, Bool.false_eq_true, if_false, eqVals] at hb
    cases v <;> simp [eqK] at hb
    rw [show (10000 : Nat) = 9999 + 1 from rfl, Instr.checkKey]
    simp [run_underlying hu]
  · rename_i n e hu
    split at hk
    · rename_i k i hue hi
      split at hk
      · rename_i hc
        injection hk with hk
        cases hk
        obtain ⟨vs, rfl⟩ := hv rfl
        simp only [valsOf, if_true] at hb
        have hlen := (eqVals_len hb).1
        rw [List.length_replicate] at hlen
        have hint : ∀ j, j < n → ∃ k z, vs[j]? = some (.int k z) := by
          intro j hj
          have hj' : j < vs.toList.length := by omega
          have key : ∀ (ks : List Nat) (x : List Value) (b : Bool), eqVals ks x x = some b → (∀ c ∈ ks, c = 0) → ∀ u ∈ x, ∃ k z, u = .int k z := by
            intro ks
            induction ks with
            | nil => intro x b h _ u hu'; cases x <;> simp [eqVals] at h; simp at hu'
            | cons c ks ih =>
              intro x b h hc u hu'
              cases x with
              | nil => simp at hu'
              | cons y x =>
                unfold eqVals at h
                split at h
                · rename_i p q hp hq
                  rcases List.mem_cons.1 hu' with rfl | hu'
                  · rw [hc c (by simp)] at hp
                    cases u <;> simp [eqK] at hp
                    exact ⟨_, _, rfl⟩
                  · exact ih x q hq (fun c' hc' => hc c' (by simp [hc'])) u hu'
                · cases h
          obtain ⟨k, z, e⟩ := key _ _ _ hb (fun c hc => (List.mem_replicate.1 hc).2) (vs.toList[j]) (List.getElem_mem hj')
          exact ⟨k, z, by rw [← e]; simp⟩
        have hplain : P.plainKey e = true := by simp [Program.plainKey, hue]
        rw [show (10000 : Nat) = 9999 + 1 from rfl, Instr.checkKey]
        simp only [Sem.run_bind, run_underlying hu, Result.andThen_ok]
        simp only [Std.Legacy.Range.forIn_eq_forIn_range', Std.Legacy.Range.size, Nat.sub_zero, Nat.add_one_sub_one, Nat.div_one]
        have each : ∀ j ∈ List.range' 0 n, j < n := fun j hj => by
          have := (List.mem_range'_1.1 hj).2
          omega
        generalize List.range' 0 n = is at each
        induction is with
        | nil => simp
        | cons j is ih =>
          obtain ⟨k', z, hz⟩ := hint j (each j (by simp))
          have hp : (part e vs (j * i.size)).run P w = .ok (.int k' z) w := run_part_plain w hplain (by rw [hc.1, Nat.mul_one]; exact hz)
          have hck : (Instr.checkKey em 9999 e (.int k' z)).run P w = .ok () w := by
            rw [show (9999 : Nat) = 9998 + 1 from rfl, Instr.checkKey]
            simp [run_underlying hue]
          simp only [List.forIn_cons, Sem.run_bind, run_sizeOf hi, Result.andThen_ok, hp, hck, Sem.run_pure]
          exact ih (fun y hy => each y (by simp [hy]))
      · cases hk
    · cases hk
  · cases hk

/-! ### Finding a key -/
/-- What is found, in the world. -/
def FoundAt (α : Asg) (Im : Nat → Prop) (w : World) (kv : Value) (ces : List MapEntry) (i : Nat) : Option (Nat × AVal) → Option (Nat × Value) → Prop
  | none, none => True
  | some (j, v), some (j', cv) => j' = j ∧ i ≤ j ∧ Rel α Im w v cv ∧ ∃ c, ces[j - i]? = some c ∧ c.key = kv
  | _, _ => False
def EntRel (α : Asg) (Im : Nat → Prop) (w : World) (es : List (AVal × AVal)) (ces : List MapEntry) : Prop :=
  ces.length = es.length ∧ ∀ (i : Nat) (k v : AVal), es[i]? = some (k, v) → ∃ c : MapEntry, ces[i]? = some c ∧ Rel α Im w k c.key ∧ Rel α Im w v c.val

theorem EntRel.tail {k v : AVal} {es : List (AVal × AVal)} {c : MapEntry} {ces : List MapEntry} (h : EntRel α Im w ((k, v) :: es) (c :: ces)) : EntRel α Im w es ces ∧ Rel α Im w k c.key ∧ Rel α Im w v c.val := by
  refine ⟨⟨by simpa using h.1, fun i k v hi => ?_⟩, ?_⟩
  · have := h.2 (i + 1) k v (by simpa using hi)
    simpa using this
  · obtain ⟨c', h1, h2, h3⟩ := h.2 0 k v rfl
    simp at h1
    subst h1
    exact ⟨h2, h3⟩

theorem FoundAt.shift {kv : Value} {c : MapEntry} {ces : List MapEntry} {i : Nat} {r : Option (Nat × AVal)} {r' : Option (Nat × Value)} (h : FoundAt α Im w kv ces (i + 1) r r') : FoundAt α Im w kv (c :: ces) i r r' := by
  match r, r', h with
  | none, none, _ => trivial
  | some (j, v), some (j', cv), ⟨h1, h2, h3, c', h4, h5⟩ =>
    refine ⟨h1, by omega, h3, c', ?_, h5⟩
    rw [show j - i = (j - (i + 1)) + 1 by omega]
    simpa using h4

theorem find_run {kt : TypeId} {ag : Bool} {ks : List Nat} {x : AVal} {kc : List AVal} {kv : Value} (hk : keyKs P kt = some (ag, ks)) (hx : keyC ag x = some kc) (hr : Rel α Im w x kv) {es : List (AVal × AVal)} {ces : List MapEntry} (he : EntRel α Im w es ces)
    {r : Option (Nat × AVal)} (h : findA ag ks kc es 0 = some r) : ∃ r', (Instr.findKey kt kv ces).run P w = .ok r' w ∧ FoundAt α Im w kv ces 0 r r' := by
  have hkv := (key_vals hx hr).2.2
  have plain : ∀ d, P.underlying kt = some d → ag = false → (∀ c (b : Bool), eqVals ks [kv] [c] = some b → Instr.sameNow d kv c = some b) → ∀ (es : List (AVal × AVal)) (ces : List MapEntry) (i : Nat) (r : Option (Nat × AVal)), EntRel α Im w es ces → findA ag ks kc es i = some r → ∃ r', Instr.findNow d kv ces i = some r' ∧ FoundAt α Im w kv ces i r r' := by
    intro d hd hag hsame es
    induction es with
    | nil =>
      intro ces i r he h
      simp only [findA, Option.some.injEq] at h
      subst h
      obtain rfl : ces = [] := List.eq_nil_of_length_eq_zero (by simpa using he.1)
      exact ⟨none, rfl, trivial⟩
    | cons p es ih =>
      obtain ⟨k, v⟩ := p
      intro ces i r he h
      cases ces with
      | nil => have := he.1; simp at this
      | cons c ces =>
        obtain ⟨he', hk1, hv1⟩ := he.tail
        simp only [findA] at h
        split at h
        · rename_i cc hcc
          have hkc := (key_vals hcc hk1).2.2
          split at h
          · rename_i hb
            injection h with h
            subst h
            have hq := key_eq hx hcc hr hk1 hb
            have hs := same_keys hkv hkc hq
            subst hag
            have := hsame _ _ (by simpa [valsOf] using hq)
            exact ⟨some (i, c.val), by simp [Instr.findNow, this], rfl, Nat.le_refl _, hv1, c, by simp, hs.1.symm⟩
          · rename_i hb
            have hq := key_eq hx hcc hr hk1 hb
            obtain ⟨r', h1, h2⟩ := ih ces (i + 1) r he' h
            subst hag
            have := hsame _ _ (by simpa [valsOf] using hq)
            exact ⟨r', by simp [Instr.findNow, this, h1], h2.shift⟩
          · cases h
        · cases h
  have asked : ∀ d, P.underlying kt = some d → isAggD d = true → flatEq P 10 kt = some ks → ag = true → ∀ (es : List (AVal × AVal)) (ces : List MapEntry) (i : Nat) (r : Option (Nat × AVal)), EntRel α Im w es ces → findA ag ks kc es i = some r → ∃ r', (Instr.findAsking kt kv ces i).run P w = .ok r' w ∧ FoundAt α Im w kv ces i r r' := by
    intro d hd ha hfl hag es
    induction es with
    | nil =>
      intro ces i r he h
      simp only [findA, Option.some.injEq] at h
      subst h
      obtain rfl : ces = [] := List.eq_nil_of_length_eq_zero (by simpa using he.1)
      exact ⟨none, by simp [Instr.findAsking], trivial⟩
    | cons p es ih =>
      obtain ⟨k, v⟩ := p
      intro ces i r he h
      cases ces with
      | nil => have := he.1; simp at this
      | cons c ces =>
        obtain ⟨he', hk1, hv1⟩ := he.tail
        simp only [findA] at h
        split at h
        · rename_i cc hcc
          have hkc := (key_vals hcc hk1).2.2
          have eqrun : ∀ b, eqCells ks kc cc = some b → (Op.equal kt kv c.key).run P w = .ok b w := fun b hb => by
            have hq := key_eq hx hcc hr hk1 hb
            obtain ⟨us, hus⟩ := hkv hag
            obtain ⟨vs, hvs⟩ := hkc hag
            rw [hus, hvs] at hq ⊢
            subst hag
            exact run_equal_flat hd ha hfl (by simpa [valsOf] using hq)
          split at h
          · rename_i hb
            injection h with h
            subst h
            have hq := key_eq hx hcc hr hk1 hb
            have hs := same_keys hkv hkc hq
            exact ⟨some (i, c.val), by simp [Instr.findAsking, eqrun _ hb], rfl, Nat.le_refl _, hv1, c, by simp, hs.1.symm⟩
          · rename_i hb
            obtain ⟨r', h1, h2⟩ := ih ces (i + 1) r he' h
            exact ⟨r', by simp [Instr.findAsking, eqrun _ hb, h1], h2.shift⟩
          · cases h
        · cases h
  unfold keyKs at hk
  split at hk
  · rename_i q hu
    injection hk with hk
    cases hk
    obtain ⟨r', h1, h2⟩ := plain _ hu rfl (fun c b hb => by
      simp only [eqVals] at hb
      cases kv <;> cases c <;> simp [eqK] at hb
      simp only [Instr.sameNow]
      split at hb
      · rename_i p q hp hq
        split at hp
        · rename_i e
          rw [if_pos e]
          simp only [Option.some.injEq] at hp hq hb
          rw [← hb, ← hp, ← hq, Bool.and_true]
        · cases hp
      · cases hb) es ces 0 r he h
    exact ⟨r', run_findKey hu h1, h2⟩
  · rename_i hu
    injection hk with hk
    cases hk
    obtain ⟨r', h1, h2⟩ := plain _ hu rfl (fun c b hb => by
      simp only [eqVals] at hb
      cases kv <;> cases c <;> simp [eqK] at hb
      rename_i s t
      simp only [Instr.sameNow]
      rw [← hb]
      congr 1
      cases hst : (s.toList == t.toList) with
      | true => rw [(bytes_beq_iff _ _).1 hst]; exact (MapKept.bytes_beq _ _).2 rfl
      | false =>
        have hne := (bytes_beq_false_iff _ _).1 hst
        cases hq : (s == t) with
        | true => exact absurd ((MapKept.bytes_beq _ _).1 hq) hne
        | false => rfl) es ces 0 r he h
    exact ⟨r', run_findKey hu h1, h2⟩
  · rename_i n e hu
    split at hk
    · rename_i q i hue hi
      split at hk
      · rename_i hc
        injection hk with hk
        cases hk
        obtain ⟨r', h1, h2⟩ := asked _ hu rfl hc.2 rfl es ces 0 r he h
        exact ⟨r', by rw [run_findKey_eq w (by rw [hu]) kv ces]; exact h1, h2⟩
      · cases hk
    · cases hk
  · cases hk

theorem mapTy_spec {t : TypeId} {ag : Bool} {ks : List Nat} {z : Value} (h : mapTy P t = some (ag, ks, z)) : ∃ kt et i, P.underlying t = some (.map kt et) ∧ keyKs P kt = some (ag, ks) ∧ P.info? et = some i ∧ i.zero = some z := by
  unfold mapTy at h
  split at h
  · rename_i kt et hu
    split at h
    · rename_i ag' ks' i hk hi
      split at h
      · rename_i z' hz
        injection h with h
        cases h
        exact ⟨kt, et, i, hu, hk, hi, hz⟩
      · cases h
    · cases h
  · cases h

theorem lookK_spec {ag : Bool} {ks : List Nat} {k : AVal} {es : List (AVal × AVal)} {r : Option (Nat × AVal)} (h : lookK ag ks k es = some r) : ∃ kc, keyC ag k = some kc ∧ (eqCells ks kc kc).isSome = true ∧ findA ag ks kc es 0 = some r := by
  unfold lookK at h
  split at h
  · rename_i kc hkc
    split at h
    · rename_i hs
      exact ⟨kc, hkc, hs, h⟩
    · cases h
  · cases h

theorem run_checkA {kt : TypeId} {ag : Bool} {ks : List Nat} {x : AVal} {kc : List AVal} {v : Value} (hk : keyKs P kt = some (ag, ks)) (hx : keyC ag x = some kc) (hs : (eqCells ks kc kc).isSome = true) (hr : Rel α Im w x v) (em : Bool) : (Instr.checkKey em 10000 kt v).run P w = .ok () w := by
  obtain ⟨b, hb⟩ := Option.isSome_iff_exists.1 hs
  exact run_check hk (key_vals hx hr).2.2 (by rw [key_eq hx hx hr hr hb]; rfl) em

/-! ### The operations -/
theorem lookup_ok (hs : Sim α Im σ w) (hρ : ∀ x, Rel α Im w (ρ x) (a.eval x)) {t : TypeId} {ok ag : Bool} {ks : List Nat} {z : Value} {x i : Operand} (ho : o.op = .lookup t x i ok) (ht : mapTy P t = some (ag, ks, z)) :
    StepOk P o a w α Im σ (stepA ρ σ (.lookup ok ag ks (ofConst z) x i)) := by
  obtain ⟨kt, et, inf, hu, hk, hi, hz⟩ := mapTy_spec ht
  simp only [stepA, lookR]
  have hzero : (zeroValue et).run P w = .ok z w := run_zeroValue hi hz w
  have go : ∀ (es : List (AVal × AVal)) (ces : Array MapEntry), EntRel α Im w es ces.toList → (∀ ix r', (Instr.checkKey ces.isEmpty 10000 kt ix).run P w = .ok () w → (Instr.findKey kt ix ces.toList).run P w = .ok r' w → (Instr.lookup t (a.eval x) ix ok).run P w =
        .ok (match r' with | some (_, v) => if ok then .tuple #[v, .bool true] else v | none => if ok then .tuple #[z, .bool false] else z) w) →
      StepOk P o a w α Im σ (match lookK ag ks (ρ i) es with
        | some r => .val (lookV ok (ofConst z) r) σ
        | none => .stuck) := by
    intro es ces he hrun
    split
    · rename_i r hr
      obtain ⟨kc, h1, h2, h3⟩ := lookK_spec hr
      obtain ⟨r', h4, h5⟩ := find_run hk h1 (hρ i) he h3
      have hc := run_checkA hk h1 h2 (hρ i) ces.isEmpty
      have hexec : ∀ v, (Instr.lookup t (a.eval x) (a.eval i) ok).run P w = .ok v w → (execOp a.eval o).run P w = .ok (.value v) w := fun v h => by
        simp [execOp, ho, h]
      match r, r', h5 with
      | none, none, _ =>
        refine ok_val hs (hexec (if ok then .tuple #[z, .bool false] else z) ?_) ?_
        · exact hrun _ _ hc h4
        · simp only [lookV]
          split
          · refine .tup _ _ rfl fun i x v hx hv => ?_
            match i, hx, hv with
            | 0, hx, hv => simp at hx hv; subst hx; subst hv; exact rel_ofConst z
            | 1, hx, hv => simp at hx hv; subst hx; subst hv; exact .sc _ rfl
            | i + 2, hx, hv => simp at hx
          · exact rel_ofConst z
      | some (j, v), some (j', cv), ⟨g1, g2, g3, _⟩ =>
        refine ok_val hs (hexec (if ok then .tuple #[cv, .bool true] else cv) ?_) ?_
        · exact hrun _ _ hc h4
        · simp only [lookV]
          split
          · refine .tup _ _ rfl fun i x u hx hv => ?_
            match i, hx, hv with
            | 0, hx, hv => simp at hx hv; subst hx; subst hv; exact g3
            | 1, hx, hv => simp at hx hv; subst hx; subst hv; exact .sc _ rfl
            | i + 2, hx, hv => simp at hx
          · exact g3
    · trivial
  have hx := hρ x
  generalize hp : ρ x = p at hx
  generalize hv : a.eval x = v at hx
  cases p with
  | nilm =>
    cases hx with
    | nilm =>
      simp only [mapEs]
      refine go [] #[] ⟨rfl, fun i k v h => by simp at h⟩ (fun ix r' e1 e2 => ?_)
      rw [hv]
      simp only [Array.isEmpty_empty, List.isEmpty_toArray, List.isEmpty_nil] at e1
      cases r' with
      | none => simp [Instr.lookup, run_underlying hu, e1, e2, hzero, Result.andThen]
      | some q => simp [Instr.lookup, run_underlying hu, e1, e2, hzero, Result.andThen]
  | map id =>
    cases hx with
    | map _ l hl =>
      simp only [mapEs]
      cases hg : σ.get id with
      | none => trivial
      | some ob =>
        cases ob with
        | row _ _ _ _ => trivial
        | mp es =>
          obtain ⟨l', ces, clock, k1, k2, k3, k4, _⟩ := hs.obj id _ hg
          rw [hl] at k1
          injection k1 with k1
          subst k1
          refine go es ces ⟨by simpa using k3, fun i k v h => ?_⟩ (fun ix r' e1 e2 => ?_)
          · obtain ⟨c, q1, q2, q3⟩ := k4 i k v h
            exact ⟨c, by simpa using q1, q2, q3⟩
          · rw [hv]
            cases r' with
            | none => simp [Instr.lookup, run_underlying hu, MapKept.run_getObj_map k2, e1, e2, hzero, Result.andThen]
            | some q => simp [Instr.lookup, run_underlying hu, MapKept.run_getObj_map k2, e1, e2, hzero, Result.andThen]
  | _ => trivial

theorem makeMap_ok (hs : Sim α Im σ w) {t : TypeId} (ho : o.op = .makeMap t none) : StepOk P o a w α Im σ (stepA ρ σ .makeMap) := by
  simp only [stepA]
  intro id hid hα
  have hle := le_upd α (⟨w.heap.size, 0, 0, 0⟩ : Loc) (hα 0)
  have hadd := hs.add (β := Asg.upd α id 0 ⟨w.heap.size, 0, 0, 0⟩) (w' := w.alloc (.map #[] 0)) (o' := .mp []) (l' := ⟨w.heap.size, 0, 0, 0⟩) hid hle (fun i hi v => upd_ne _ _ (fun e => hi e.1)) (fin_upd hs.fin _ _ _) rfl rfl ⟨rfl, Nat.le_refl _⟩ (by simp) (fun b hb => heap_alloc_lt _ _ hb)
    ⟨⟨w.heap.size, 0, 0, 0⟩, #[], 0, upd_self _ _ _ _, heap_alloc_self _ _, rfl, fun i k v h => by simp at h, fun h => Nat.lt_irrefl _ (hs.im _ h), fun v hv => by rw [upd_ne _ _ (by omega)]; exact hα v⟩
    (upd_self _ _ _ _) (Nat.le_refl _)
  exact ⟨.map (some w.heap.size), _, _, by simp [execOp, ho, Instr.makeMap, Result.andThen], .map id _ (upd_self _ _ _ _), hadd.1, hadd.2⟩

/-- A map's entries are others now. -/
theorem put_map (hs : Sim α Im σ w) {id : Nat} {es es' : List (AVal × AVal)} {l : Loc} {ces' : Array MapEntry} {clock' : Nat} (hg : σ.get id = some (.mp es)) (hl : α id 0 = some l)
    (he : EntRel α Im w es' ces'.toList) {w' : World} (hw : w' = { w with heap := w.heap.setIfInBounds l.b (.map ces' clock') }) : Sim α Im (σ.set id (.mp es')) w' ∧ Step α Im σ w α Im (σ.set id (.mp es')) w' := by
  obtain ⟨l', ces, clock, k1, k2, k3, k4, k5, k6⟩ := hs.obj id _ hg
  rw [hl] at k1
  injection k1 with k1
  subst k1
  have hset := heap_set (o' := .map ces' clock') k2
  subst hw
  refine hs.put hg rfl (l := l) hl (le_refl α) (fun _ _ _ => rfl) hs.fin rfl rfl ⟨rfl, Nat.le_refl _⟩ (by simp) (fun b _ hb => hset.2 b hb) ?_ (l' := l) hl (.inl rfl) rfl
  refine ⟨l, ces', clock', hl, hset.1, by simpa using he.1, fun i k v h => ?_, k5, k6⟩
  obtain ⟨c, q1, q2, q3⟩ := he.2 i k v h
  have hI : ∀ b, Im b → (w.heap.setIfInBounds l.b (.map ces' clock'))[b]? = w.heap[b]? := fun b hb => hset.2 b (fun e => k5 (e ▸ hb))
  exact ⟨c, by simpa using q1, q2.mono (le_refl α) (fun _ h => h) hI, q3.mono (le_refl α) (fun _ h => h) hI⟩

theorem mapUpd_ok (hs : Sim α Im σ w) (hρ : ∀ x, Rel α Im w (ρ x) (a.eval x)) {t : TypeId} {ag : Bool} {ks : List Nat} {z : Value} {m k v : Operand} (ho : o.op = .mapUpdate t m k v ∨ o.op = .insert t m k v) (ht : mapTy P t = some (ag, ks, z)) :
    StepOk P o a w α Im σ (stepA ρ σ (.mapUpd ag ks m k v)) := by
  obtain ⟨kt, et, inf, hu, hk, hi, hz⟩ := mapTy_spec ht
  simp only [stepA, updR]
  have hm := hρ m
  generalize hp : ρ m = p at hm
  generalize hv : a.eval m = mv at hm
  cases p with
  | map id =>
    cases hm with
    | map _ l hl =>
      simp only
      cases hg : σ.get id with
      | none => trivial
      | some ob =>
        cases ob with
        | row _ _ _ _ => trivial
        | mp es =>
          simp only
          obtain ⟨l', ces, clock, k1, k2, k3, k4, _⟩ := hs.obj id _ hg
          rw [hl] at k1
          injection k1 with k1
          subst k1
          have he : EntRel α Im w es ces.toList := ⟨by simpa using k3, fun i k v h => by
            obtain ⟨c, q1, q2, q3⟩ := k4 i k v h
            exact ⟨c, by simpa using q1, q2, q3⟩⟩
          split
          · rename_i r hr
            obtain ⟨kc, h1, h2, h3⟩ := lookK_spec hr
            obtain ⟨r', h4, h5⟩ := find_run hk h1 (hρ k) he h3
            have hc := run_checkA hk h1 h2 (hρ k) false
            have hexec : ∀ w', (Instr.mapUpdate t (a.eval m) (a.eval k) (a.eval v)).run P w = .ok () w' → (execOp a.eval o).run P w = .ok .skip w' := fun w' h => by
              rcases ho with ho | ho <;> simp [execOp, ho, h]
            match r, r', h5 with
            | none, none, _ =>
              have hput := put_map hs (es' := updEs es (ρ k) (ρ v) none) (ces' := ces.push ⟨a.eval k, a.eval v, clock⟩) (clock' := clock + 1) hg hl (by
                refine ⟨by simp [updEs, k3], fun i k' v' hi' => ?_⟩
                simp only [updEs] at hi'
                rw [Array.toList_push]
                by_cases hlt : i < es.length
                · rw [List.getElem?_append_left hlt] at hi'
                  rw [List.getElem?_append_left (by rw [he.1]; exact hlt)]
                  exact he.2 i k' v' hi'
                · rw [List.getElem?_append_right (by omega)] at hi'
                  rw [List.getElem?_append_right (by rw [he.1]; omega), he.1]
                  cases hj : i - es.length with
                  | zero =>
                    rw [hj] at hi'
                    simp at hi'
                    obtain ⟨rfl, rfl⟩ := hi'
                    exact ⟨_, rfl, hρ k, hρ v⟩
                  | succ j => rw [hj] at hi'; simp at hi') rfl
              refine ⟨.skip, _, α, hexec _ ?_, .inr ⟨rfl, rfl⟩, hput.1, hput.2⟩
              rw [hv]
              simp [Instr.mapUpdate, run_underlying hu, MapKept.run_getObj_map k2, hc, h4, MapKept.run_setObj_map _ k2, Result.andThen]
            | some (j, v0), some (j', cv), ⟨g1, g2, g3, c, g4, g5⟩ =>
              subst g1
              simp only [Nat.sub_zero] at g4
              have hj : ces[j']? = some c := by simpa using g4
              have hks := same_keys (ag := ag) (ks := ks) (u := a.eval k) (v := a.eval k) (key_vals h1 (hρ k)).2.2 (key_vals h1 (hρ k)).2.2
              have hbits : Instr.sameBits 10000 (a.eval k) (a.eval k) = true := by
                obtain ⟨b, hb⟩ := Option.isSome_iff_exists.1 h2
                have hq := key_eq h1 h1 (hρ k) (hρ k) hb
                have hself : ∀ (ks : List Nat) (x : List Value) (b : Bool), eqVals ks x x = some b → b = true := by
                  intro ks
                  induction ks with
                  | nil => intro x b h; cases x <;> simp [eqVals] at h; exact h
                  | cons q ks ih =>
                    intro x b h
                    cases x with
                    | nil => simp [eqVals] at h
                    | cons y x =>
                      unfold eqVals at h
                      split at h
                      · rename_i p q' hp hq'
                        have := ih x q' hq'
                        subst this
                        have hp' : p = true := by
                          unfold eqK at hp
                          split at hp <;> simp at hp <;> exact hp
                        subst hp'
                        simpa using h.symm
                      · cases h
                have hbt := hself _ _ _ hq
                subst hbt
                exact (hks hq).2
              have hstay : (Instr.keyThatStays c.key (a.eval k)).run P w = .ok (a.eval k) w := by
                rw [g5]
                simp [Instr.keyThatStays, hbits]
              have hput := put_map hs (es' := updEs es (ρ k) (ρ v) (some (j', v0))) (ces' := ces.modify j' fun e => { e with key := a.eval k, val := a.eval v }) (clock' := clock) hg hl (by
                refine ⟨by simp [updEs, k3], fun i k' v' hi' => ?_⟩
                simp only [updEs] at hi'
                rw [List.getElem?_set] at hi'
                have hmod : (ces.modify j' fun e => { e with key := a.eval k, val := a.eval v }).toList[i]? = if j' = i then (ces[i]?).map (fun e => { e with key := a.eval k, val := a.eval v }) else ces[i]? := by
                  rw [Array.getElem?_toList, Array.getElem?_modify]
                rw [hmod]
                by_cases hji : j' = i
                · subst hji
                  rw [if_pos rfl] at hi' ⊢
                  split at hi'
                  · simp at hi'
                    obtain ⟨rfl, rfl⟩ := hi'
                    rw [hj]
                    exact ⟨_, rfl, hρ k, hρ v⟩
                  · cases hi'
                · rw [if_neg hji] at hi' ⊢
                  obtain ⟨c', q1, q2, q3⟩ := he.2 i k' v' hi'
                  exact ⟨c', by simpa using q1, q2, q3⟩) rfl
              refine ⟨.skip, _, α, hexec _ ?_, .inr ⟨rfl, rfl⟩, hput.1, hput.2⟩
              rw [hv]
              simp [Instr.mapUpdate, run_underlying hu, MapKept.run_getObj_map k2, hc, h4, hj, hstay, MapKept.run_setObj_map _ k2, Result.andThen]
          · trivial
  | _ => trivial

theorem mapDel_ok (hs : Sim α Im σ w) (hρ : ∀ x, Rel α Im w (ρ x) (a.eval x)) {t : TypeId} {ag : Bool} {ks : List Nat} {z : Value} {c : Call} {m k : Operand} (ho : o.op = .call c) (hc : c.callee = .builtin .delete) (hty : c.argTypes[0]? = some t) (hargs : c.args.toList = [m, k]) (ht : mapTy P t = some (ag, ks, z)) :
    StepOk P o a w α Im σ (stepA ρ σ (.mapDel ag ks m k)) := by
  obtain ⟨kt, et, inf, hu, hk, hi, hz⟩ := mapTy_spec ht
  simp only [stepA, delR]
  have hargs' : c.args = #[m, k] := by
    cases hcc : c.args with
    | mk l => rw [hcc] at hargs; simp at hargs; rw [hargs]
  have hm := hρ m
  generalize hp : ρ m = p at hm
  generalize hv : a.eval m = mv at hm
  cases p with
  | map id =>
    cases hm with
    | map _ l hl =>
      simp only
      cases hg : σ.get id with
      | none => trivial
      | some ob =>
        cases ob with
        | row _ _ _ _ => trivial
        | mp es =>
          simp only
          obtain ⟨l', ces, clock, k1, k2, k3, k4, _⟩ := hs.obj id _ hg
          rw [hl] at k1
          injection k1 with k1
          subst k1
          have he : EntRel α Im w es ces.toList := ⟨by simpa using k3, fun i k v h => by
            obtain ⟨c, q1, q2, q3⟩ := k4 i k v h
            exact ⟨c, by simpa using q1, q2, q3⟩⟩
          split
          · rename_i r hr
            obtain ⟨kc, h1, h2, h3⟩ := lookK_spec hr
            obtain ⟨r', h4, h5⟩ := find_run hk h1 (hρ k) he h3
            have hck := run_checkA hk h1 h2 (hρ k) ces.isEmpty
            have hexec : ∀ w', (Builtin.delete_ c.argTypes o.type #[a.eval m, a.eval k]).run P w = .ok (.tuple #[]) w' → (execOp a.eval o).run P w = .ok (.value (.tuple #[])) w' := fun w' h => by
              simp [execOp, ho, resolve, hc, hargs', invoke, builtin, h]
            match r, r', h5 with
            | none, none, _ =>
              have hput := put_map hs (es' := delEs es none) (ces' := ces) (clock' := clock) hg hl (by simpa [delEs] using he) rfl
              refine ok_val' (hexec _ ?_) (.tup [] #[] rfl (fun i x v h => by simp at h)) hput
              rw [hv]
              simp [Builtin.delete_, hty, run_underlying hu, MapKept.run_getObj_map k2, hck, h4, MapKept.run_setObj_map _ k2, Result.andThen]
            | some (j, v0), some (j', cv), ⟨g1, g2, g3, ce, g4, g5⟩ =>
              subst g1
              simp only [Nat.sub_zero] at g4
              have hj : ces[j']? = some ce := by simpa using g4
              have hjl : j' < ces.size := (Array.getElem?_eq_some_iff.1 hj).1
              have hput := put_map hs (es' := delEs es (some (j', v0))) (ces' := ces.eraseIdxIfInBounds j') (clock' := clock) hg hl (by
                have e : (ces.eraseIdxIfInBounds j').toList = ces.toList.eraseIdx j' := by
                  simp [Array.eraseIdxIfInBounds, hjl]
                rw [e]
                refine ⟨by simp only [delEs, List.length_eraseIdx]; rw [he.1], fun i k' v' hi' => ?_⟩
                simp only [delEs] at hi'
                rw [List.getElem?_eraseIdx] at hi' ⊢
                split at hi'
                · rename_i hlt; rw [if_pos hlt]; exact he.2 _ k' v' hi'
                · rename_i hlt; rw [if_neg hlt]; exact he.2 _ k' v' hi') rfl
              refine ok_val' (hexec _ ?_) (.tup [] #[] rfl (fun i x v h => by simp at h)) hput
              rw [hv]
              simp [Builtin.delete_, hty, run_underlying hu, MapKept.run_getObj_map k2, hck, h4, MapKept.run_setObj_map _ k2, Result.andThen]
          · trivial
  | _ => trivial

theorem capS_ok (hs : Sim α Im σ w) (hρ : ∀ x, Rel α Im w (ρ x) (a.eval x)) {t e : TypeId} {c : Call} {x : Operand} (ho : o.op = .call c) (hc : c.callee = .builtin .cap) (ht : c.argTypes[0]? = some t) (hx : c.args.toList = [x]) (hd : P.underlying t = some (.slice e)) : StepOk P o a w α Im σ (stepA ρ σ (.capS x)) := by
  simp only [stepA]
  have hargs : c.args = #[x] := by
    cases hcc : c.args with
    | mk l => rw [hcc] at hx; simp at hx; rw [hx]
  have hr := hρ x
  split
  · rename_i hp
    rw [hp] at hr
    generalize hv : a.eval x = v at hr
    cases hr
    refine ok_val hs (cv := .int .i64 0) ?_ (.sc _ rfl)
    simp [execOp, ho, resolve, hc, hargs, invoke, builtin, Builtin.cap_, ht, hv, run_underlying hd, goInt, Result.andThen]
  · trivial


theorem run_append_make (t tx ty e : TypeId) (i : TypeInfo) (z : Value) (k : IntKind) (ht : P.underlying t = some (.slice e)) (hx : P.underlying tx = some (.int k)) (hi : P.info? e = some i) (hz : i.zero = some z) (kx : IntKind) (n : Nat) (hn : 0 < n) (h0 : 0 < i.size)
    (h63 : (n : Int) ≤ 9223372036854775807) (hb : n * i.bytes ≤ 140737488355328) :
    (Builtin.append_ #[t, tx] ty #[.slice none 0 0, .int kx (n : Int)]).run P w =
      .ok (.slice (some ⟨w.heap.size, 0, none⟩) n (grownCap w n 0 e)) (w.drew.alloc (.cells (Builtin.zeroCells z.cells n ++ Builtin.zeroCells z.cells (grownCap w n 0 e - n)) e)) := by
  have wl : IntKind.i64.wrap (n : Int) = n := by rw [IntKind.wrap_i64]; omega
  have n1 : ¬ ((n : Int) < 0) := by omega
  have hb' : (n : Int) * (i.bytes : Int) ≤ 140737488355328 := by
    rw [← Int.natCast_mul]
    omega
  have n2 : ¬ (281474976710656 < (n : Int) * (i.bytes : Int)) := by omega
  have n3 : ¬ (9223372036854775807 < (n : Int)) := by omega
  have hfit := growslice_fits (need := n) (old := 0) (bytes := i.bytes) hn hb
  have n4 : ¬ (281474976710656 < Builtin.nextslicecap n 0 * i.bytes) := by omega
  have n5 : ¬ n = 0 := by omega
  have n6 : ¬ i.size = 0 := by omega
  have n7 : ¬ n * i.size = 0 := fun h => by rcases Nat.mul_eq_zero.1 h with h | h <;> omega
  simp [Builtin.append_, run_underlying ht, run_underlying hx, sizeOf, typeInfo, zeroValue, hi, hz, asInt, asIntOf, wl, n1, n2, n3, n4, n5, n6, n7, Question.forced, Builtin.firstCells, newRow, grownCap]

theorem zeroCells_made (z : Array Value) (n : Nat) : Builtin.zeroCells z n = madeCells z (n * z.size) := rfl

theorem appendMk_ok (hs : Sim α Im σ w) (hρ : ∀ x, Rel α Im w (ρ x) (a.eval x)) {t tx e : TypeId} {k : IntKind} {i : TypeInfo} {z : Value} {zs : List AVal} (ht : P.underlying t = some (.slice e)) (htx : P.underlying tx = some (.int k)) (hi : P.info? e = some i) (hz : i.zero = some z) (hzz : cellsZ z = some zs) (hzs : zs.length = i.size) (h0 : 0 < i.size) {c : Call} (ho : o.op = .call c) (hc : c.callee = .builtin .append) (htys : c.argTypes.toList = [t, tx]) {s x : Operand} (hargs : c.args.toList = [s, x]) :
    StepOk P o a w α Im σ (stepA ρ σ (.appendMk i.size i.bytes zs s x)) := by
  have htys' : c.argTypes = #[t, tx] := by
    cases hcc : c.argTypes with
    | mk l => rw [hcc] at htys; simp at htys; rw [htys]
  have hargs' : c.args = #[s, x] := by
    cases hcc : c.args with
    | mk l => rw [hcc] at hargs; simp at hargs; rw [hargs]
  have hexec : ∀ v w', (Builtin.append_ #[t, tx] o.type #[a.eval s, a.eval x]).run P w = .ok v w' → (execOp a.eval o).run P w = .ok (.value v) w' := fun v w' h => by
    simp [execOp, ho, resolve, hc, hargs', htys', invoke, builtin, h]
  simp only [stepA, mkR]
  have hsr := hρ s
  have hxr := hρ x
  split
  · rename_i k' n hps hpx
    rw [hps] at hsr
    rw [hpx] at hxr
    generalize hvs : a.eval s = vs at hsr
    generalize hvx : a.eval x = vx at hxr
    cases hsr
    cases hxr
    split
    · rename_i hcond
      obtain ⟨c1, c2, c3⟩ := hcond
      obtain ⟨m, rfl⟩ := Int.eq_ofNat_of_zero_le c1
      split
      · rename_i h
        have hm : m = 0 := by omega
        subst hm
        refine ok_val hs (hexec (.slice none 0 0) w ?_) .nils
        have wl : IntKind.i64.wrap 0 = 0 := by rw [IntKind.wrap_i64]; omega
        rw [hvs, hvx]
        simp [Builtin.append_, run_underlying ht, run_underlying htx, sizeOf, typeInfo, hi, asInt, asIntOf, wl, storeCells]
      · rename_i h
        have hm : 0 < m := by omega
        intro id hid hα
        rw [Int.toNat_natCast] at c3 ⊢
        have hr := run_append_make (P := P) (w := w) t tx o.type e i z k ht htx hi hz k' m hm h0 c2 c3
        have hr' := hr
        rw [← hvs, ← hvx] at hr'
        have hzsz : z.cells.size = zs.length := ((cellsZ_spec (α := α) (Im := Im) (w := w) hzz).1).symm
        have hge := grownCap_ge w m 0 e
        refine ok_new hs (w0 := w.drew) rfl rfl rfl ⟨rfl, Nat.le_succ _⟩ hid hα (P := P) (o := o) (a := a) (k := fun id => .sl id 0 0 m i.size) (sz := i.size) (xs := List.replicate m zs) ?_ (fun q y hy => ?_) (hexec _ _ hr') (fun β l w' g1 g2 g3 g4 g5 => ?_)
        · simp only [Array.size_append, zeroCells_made, size_madeCells, List.length_replicate, hzsz, hzs]; omega
        · obtain ⟨q1, q2⟩ := made_rows (α := α) (Im := Im) (w := w) hzz (by omega) m q y hy
          refine ⟨q1.trans hzs, fun j yy hyy => ?_⟩
          obtain ⟨u, q3, q4, q5⟩ := q2 j yy hyy
          refine ⟨u, ?_, q4, q5⟩
          rw [zeroCells_made, hzsz]
          rw [← hzs]
          rw [Array.getElem?_append_left (Array.getElem?_eq_some_iff.1 q3).1]
          exact q3
        · have hN : l.N = grownCap w m 0 e * i.size := by
            rw [g5]
            simp only [Array.size_append, zeroCells_made, size_madeCells, hzsz, hzs, ← Nat.add_mul]
            congr 1
            omega
          have := Rel.sl (Im := Im) (w := w') id 0 0 m (grownCap w m 0 e) l g1 hge (by rw [g3, g4, hN]; simp)
          rw [g4] at this
          simpa [g2, g3] using this
    · trivial
  · trivial

/-- All that is asked of a program: no function with a body is the one that the model answers by itself. -/
def ProgOk (P : Program) : Prop := ∀ (f : Nat) fn, P.funcs[f]? = some fn → fn.body.isNone = false → (fn.name == "runtime.NumGoroutine") = false

theorem step_ok (hs : Sim α Im σ w) (hρ : ∀ x, Rel α Im w (ρ x) (a.eval x)) {ao : AOp} (hst : stripOp P o.op = some ao)
    (hv : ∀ q args, ao = .callV q args → ∀ f caps, ρ q = .func f caps → ∃ fn, P.funcs[f]? = some fn ∧ fn.body.isNone = false ∧ (fn.name == "runtime.NumGoroutine") = false) : StepOk P o a w α Im σ (stepA ρ σ ao) := by
  generalize hop : o.op = op at hst
  cases op <;> simp only [stripOp] at hst <;> try (cases hst; done)
  case move x => injection hst with hst; subst hst; exact move_ok hs hρ (.inl hop)
  case assign x => injection hst with hst; subst hst; exact move_ok hs hρ (.inr hop)
  case pick c x y => injection hst with hst; subst hst; exact pick_ok hs hρ hop
  case alloc t =>
    split at hst
    · rename_i i hi
      split at hst
      · rename_i z hz
        obtain ⟨zs, hzs, rfl⟩ := Option.map_eq_some_iff.1 hst
        exact alloc_ok hs hop hi hz hzs
      · cases hst
    · cases hst
  case box t x => injection hst with hst; subst hst; exact box_ok hs hρ hop
  case build t ps =>
    split at hst
    · rename_i fs i hd hi
      split at hst
      · rename_i z pl hz hpl
        split at hst
        · rename_i zs qs hzs hqs
          injection hst with hst; subst hst
          exact build_struct_ok hs hρ hop hd hi hz hpl hzs hqs
        · cases hst
      · cases hst
    · rename_i n e i hd hi
      split at hst
      · rename_i z j hz hj
        split at hst
        · rename_i zs qs hzs hqs
          injection hst with hst; subst hst
          exact build_array_ok hs hρ hop hd hi hz hj hzs hqs
        · cases hst
      · cases hst
    · cases hst
  case buildSlice t len ps =>
    split at hst
    · rename_i e hd
      split at hst
      · rename_i j hj
        split at hst
        · rename_i z hz
          split at hst
          · rename_i zs hzs
            split at hst
            · rename_i hc
              injection hst with hst; subst hst
              exact buildSlice_ok hs hρ hop hd hj hz hzs hc.1 hc.2.1 hc.2.2
            · cases hst
          · cases hst
        · cases hst
      · cases hst
    · cases hst
  case load t x =>
    split at hst
    · rename_i d i hd hi
      have := load_ok hs hρ hop hd hi
      split at hst
      · rename_i ha
        injection hst with hst; subst hst
        simpa [ha] using this
      · rename_i ha
        injection hst with hst; subst hst
        have ha' : isAggD d = false := by simpa using ha
        simpa [ha'] using this
    · cases hst
  case store t x v =>
    split at hst
    · rename_i i hi
      injection hst with hst; subst hst
      exact store_ok hs hρ hop hi
    · cases hst
  case nilCheck x => injection hst with hst; subst hst; exact nilCheck_ok hs hρ hop
  case binOp op t x y u =>
    split at hst
    · split at hst
      · injection hst with hst; subst hst; exact bin_ok hs hρ hop
      · injection hst with hst; subst hst; exact bin_ok hs hρ hop
      · rename_i hd; injection hst with hst; subst hst; exact eqBool_ok hs hρ (.inl rfl) hop hd
      · rename_i hd; injection hst with hst; subst hst; exact eqPtr_ok hs hρ (.inl rfl) hop hd
      · rename_i hd; injection hst with hst; subst hst; exact eqSl_ok hs hρ (.inl rfl) hop hd
      · rename_i hd
        split at hst
        · rename_i hk hg; injection hst with hst; subst hst; exact eqAgg_ok hs hρ (.inl rfl) hop hd rfl hk hg
        · cases hst
      · rename_i hd
        split at hst
        · rename_i hk hg; injection hst with hst; subst hst; exact eqAgg_ok hs hρ (.inl rfl) hop hd rfl hk hg
        · cases hst
      · cases hst
    · split at hst
      · injection hst with hst; subst hst; exact bin_ok hs hρ hop
      · injection hst with hst; subst hst; exact bin_ok hs hρ hop
      · rename_i hd; injection hst with hst; subst hst; exact eqBool_ok hs hρ (.inr rfl) hop hd
      · rename_i hd; injection hst with hst; subst hst; exact eqPtr_ok hs hρ (.inr rfl) hop hd
      · rename_i hd; injection hst with hst; subst hst; exact eqSl_ok hs hρ (.inr rfl) hop hd
      · rename_i hd
        split at hst
        · rename_i hk hg; injection hst with hst; subst hst; exact eqAgg_ok hs hρ (.inr rfl) hop hd rfl hk hg
        · cases hst
      · rename_i hd
        split at hst
        · rename_i hk hg; injection hst with hst; subst hst; exact eqAgg_ok hs hρ (.inr rfl) hop hd rfl hk hg
        · cases hst
      · cases hst
    · split at hst
      · injection hst with hst; subst hst; exact bin_ok hs hρ hop
      · injection hst with hst; subst hst; exact bin_ok hs hρ hop
      · cases hst
  case unOp op t x => injection hst with hst; subst hst; exact un_ok hs hρ hop
  case convert s t x =>
    split at hst
    · rename_i h1 h2; injection hst with hst; subst hst; exact convInt_ok hs hρ hop h1 h2
    · rename_i h1 h2; injection hst with hst; subst hst; exact convStr_ok hs hρ hop h1 h2
    · cases hst
  case makeFunc fn first caps =>
    split at hst
    · split at hst
      · rename_i hf; injection hst with hst; subst hst; exact makeFunc_ok hs hρ hop (by simpa using hf)
      · cases hst
    · cases hst
  case makeSlice t l c =>
    split at hst
    · rename_i e hd
      split at hst
      · rename_i j hj
        split at hst
        · rename_i z hz
          split at hst
          · rename_i zs hzs
            split at hst
            · rename_i hc
              injection hst with hst; subst hst
              exact makeSlice_ok hs hρ hop hd hj hz hzs hc.1 hc.2
            · cases hst
          · cases hst
        · cases hst
      · cases hst
    · cases hst
  case slice t x lo hi mx =>
    split at hst
    · rename_i e hd
      split at hst
      · rename_i j hj
        injection hst with hst; subst hst
        exact slice_ok hs hρ hop hd hj
      · cases hst
    · rename_i hd
      split at hst
      · rename_i hm
        injection hst with hst; subst hst
        have : mx = none := by simpa using hm
        subst this
        exact sliceStr_ok hs hρ hop hd
      · cases hst
    · cases hst
  case fieldAddr s x f =>
    split at hst
    · rename_i fs hd
      split at hst
      · rename_i fd hf
        split at hst
        · rename_i i hi
          split at hst
          · cases hst
          · rename_i h0
            injection hst with hst; subst hst
            exact fieldAddr_ok hs hρ hop hd hf hi h0
        · cases hst
      · cases hst
    · cases hst
  case field t x f =>
    split at hst
    · rename_i fs hd
      split at hst
      · rename_i fd hf
        split at hst
        · rename_i d i hdd hi
          injection hst with hst
          have := field_ok hs hρ hop hd hf hdd hi
          split at hst
          · rename_i ha; subst hst; simpa [ha] using this
          · rename_i ha
            subst hst
            have ha' : isAggD d = false := by simpa using ha
            simpa [ha'] using this
        · cases hst
      · cases hst
    · cases hst
  case indexAddr t x i =>
    split at hst
    · rename_i e hd
      split at hst
      · rename_i j hj; injection hst with hst; subst hst; exact indexAddrS_ok hs hρ hop hd hj
      · cases hst
    · rename_i n e hd
      split at hst
      · rename_i j hj; injection hst with hst; subst hst; exact indexAddrA_ok hs hρ hop hd hj
      · cases hst
    · cases hst
  case index t x i =>
    split at hst
    · rename_i n e hd
      split at hst
      · rename_i d j hdd hj
        injection hst with hst
        split at hst
        · rename_i ha
          subst hst
          have := indexA_ok hs hρ hop hd hdd hj (.inl ha)
          simpa [ha] using this
        · rename_i ha
          have ha' : isAggD d = false := by simpa using ha
          split at hst
          · rename_i h1
            subst hst
            have := indexA_ok hs hρ hop hd hdd hj (.inr h1)
            simpa [ha', h1] using this
          · subst hst
            simp only [stepA]
            split
            · rename_i n' _ _
              split
              · rename_i hc; omega
              · trivial
            · trivial
      · cases hst
    · rename_i hd
      injection hst with hst; subst hst
      exact indexStr_ok hs hρ hop hd
    · cases hst
  case extract x i => injection hst with hst; subst hst; exact extract_ok hs hρ hop
  case call c =>
    split at hst
    · rename_i f hc
      split at hst
      · rename_i fn hf
        split at hst
        · cases hst
        · rename_i hb
          injection hst with hst; subst hst
          simp only [Bool.or_eq_true, not_or, Bool.not_eq_true] at hb
          exact callF_ok hs hρ hop hc hf hb.1 hb.2
      · cases hst
    · injection hst with hst; subst hst
      exact callV_ok hs hρ hop (by assumption) (hv _ _ rfl)
    · rename_i hc
      split at hst
      · rename_i t x ht hx
        split at hst
        · rename_i e hd; injection hst with hst; subst hst; exact lenS_ok hs hρ hop hc ht hx hd
        · rename_i hd; injection hst with hst; subst hst; exact lenStr_ok hs hρ hop hc ht hx hd
        · cases hst
      · cases hst
    · rename_i hc
      split at hst
      · rename_i t u s x ht hx
        split at hst
        · rename_i e e' hd hd'
          split at hst
          · rename_i j hj
            split at hst
            · rename_i z hz
              split at hst
              · rename_i zs hzs
                split at hst
                · rename_i hcc
                  injection hst with hst; subst hst
                  exact append_ok hs hρ hd hd' hj hz hzs hcc.1 hcc.2.2 hop hc ht hx
                · cases hst
              · cases hst
            · cases hst
          · cases hst
        · rename_i e hd hd'
          split at hst
          · rename_i j hj
            split at hst
            · rename_i z hz
              split at hst
              · rename_i zs hzs
                split at hst
                · rename_i hcc
                  injection hst with hst; subst hst
                  exact appendStr_ok hs hρ hd hd' hj hz hzs hcc.2.1 hcc.1 hcc.2.2 hop hc ht hx
                · cases hst
              · cases hst
            · cases hst
          · cases hst
        · rename_i e k hd hd'
          split at hst
          · rename_i j hj
            split at hst
            · rename_i z hz
              split at hst
              · rename_i zs hzs
                split at hst
                · rename_i hcc
                  injection hst with hst; subst hst
                  exact appendMk_ok hs hρ hd hd' hj hz hzs hcc.1 hcc.2.1 hop hc ht hx
                · cases hst
              · cases hst
            · cases hst
          · cases hst
        · cases hst
      · cases hst
    · rename_i hc
      split at hst
      · rename_i t x ht hx
        split at hst
        · rename_i e hd; injection hst with hst; subst hst; exact capS_ok hs hρ hop hc ht hx hd
        · cases hst
      · cases hst
    · rename_i hc
      split at hst
      · rename_i t m k ht hx
        split at hst
        · rename_i hm; injection hst with hst; subst hst; exact mapDel_ok hs hρ hop hc ht hx hm
        · cases hst
      · cases hst
    · rename_i hc; injection hst with hst; subst hst; exact minmax_ok (isMax := false) hs hρ hop hc
    · rename_i hc; injection hst with hst; subst hst; exact minmax_ok (isMax := true) hs hρ hop hc
    · cases hst
  case panic x => injection hst with hst; subst hst; trivial
  case makeInterface t x => injection hst with hst; subst hst; trivial
  case makeMap t r =>
    cases r with
    | some _ => cases hst
    | none => injection hst with hst; subst hst; exact makeMap_ok hs hop
  case lookup t x i ok =>
    split at hst
    · rename_i hm; injection hst with hst; subst hst; exact lookup_ok hs hρ hop hm
    · cases hst
  case mapUpdate t m k v =>
    split at hst
    · rename_i hm; injection hst with hst; subst hst; exact mapUpd_ok hs hρ (.inl hop) hm
    · cases hst
  case insert t m k v =>
    split at hst
    · rename_i hm; injection hst with hst; subst hst; exact mapUpd_ok hs hρ (.inr hop) hm
    · cases hst

end
end Go.Ab

/- Contracts, code, and what a run of the code does: the abstract logic and its soundness (regions in the text's order). -/
set_option linter.unusedVariables false
set_option linter.unusedSimpArgs false
namespace Go.Ab

/-! ### Snapshots -/
def mapO {α β : Type} (f : α → Option β) : List α → Option (List β)
  | [] => some []
  | x :: r => match f x, mapO f r with
    | some y, some q => some (y :: q)
    | _, _ => none
theorem mapO_spec {α β : Type} {f : α → Option β} : ∀ {l : List α} {l' : List β}, mapO f l = some l' → l'.length = l.length ∧ ∀ (i : Nat) y, l'[i]? = some y → ∃ x, l[i]? = some x ∧ f x = some y
  | [], l', h => by simp only [mapO, Option.some.injEq] at h; subst h; exact ⟨rfl, fun i y hy => by simp at hy⟩
  | x :: r, l', h => by
    unfold mapO at h
    split at h
    · rename_i y q hx hq
      injection h with h
      subst h
      obtain ⟨h1, h2⟩ := mapO_spec hq
      refine ⟨by simp [h1], fun i z hz => ?_⟩
      cases i with
      | zero => simp at hz; subst hz; exact ⟨x, rfl, hx⟩
      | succ i => exact h2 i z hz
    · cases h
theorem mapO_id {α : Type} {f : α → Option α} : ∀ {l : List α}, (∀ x ∈ l, f x = some x) → mapO f l = some l
  | [], _ => rfl
  | x :: r, h => by
    have h1 := h x (by simp)
    have h2 := mapO_id (f := f) (l := r) (fun y hy => h y (by simp [hy]))
    simp only [mapO, h1, h2]

def snap : Nat → Store → AVal → Option AVal
  | 0, _, _ => none
  | n + 1, σ, v => match v with
    | .sl id ver off len sz => match rowAt σ id ver with
      | some (_, s, xs) => if s = sz ∧ off + len ≤ xs.length then (mapO (mapO (snap n σ)) ((xs.drop off).take len)).map .lst else none
      | none => none
    | .ptr id ver i o => match rowAt σ id ver with
      | some (_, _, xs) => match xs[i]? with
        | some c => (mapO (snap n σ) c).map (.iptr · o)
        | none => none
      | none => none
    | .map _ => none
    | .func f cap => (mapO (snap n σ) cap).map (.func f)
    | .agg cs => (mapO (snap n σ) cs).map .agg
    | .tup cs => (mapO (snap n σ) cs).map .tup
    | v => some v
def reach : Nat → Store → AVal → List Nat
  | 0, _, _ => []
  | n + 1, σ, v => match v with
    | .sl id ver off len _ => id :: (match rowAt σ id ver with
      | some (_, _, xs) => ((xs.drop off).take len).flatMap fun c => c.flatMap (reach n σ)
      | none => [])
    | .ptr id ver i _ => id :: (match rowAt σ id ver with
      | some (_, _, xs) => match xs[i]? with
        | some c => c.flatMap (reach n σ)
        | none => []
      | none => [])
    | .func _ cap => cap.flatMap (reach n σ)
    | .agg cs => cs.flatMap (reach n σ)
    | .tup cs => cs.flatMap (reach n σ)
    | _ => []

section
variable {P : Program} {w : World} {α : Asg} {Im J : Nat → Prop} {σ : Store}

theorem snap_rel (hs : Sim α Im σ w) (hI : ∀ b, Im b → J b) : ∀ (n : Nat) (x : AVal) (v : Value) (y : AVal), Rel α Im w x v → snap n σ x = some y →
    (∀ id ver fz sz xs l, id ∈ reach n σ x → σ.get id = some (.row ver fz sz xs) → α id ver = some l → J l.b) → Rel Asg.none J w y v := by
  intro n
  induction n with
  | zero => intro x v y hr h; cases h
  | succ n ih =>
    have lst_rel : ∀ (cs ys : List AVal) (vs : Array Value), vs.size = cs.length → (∀ (i : Nat) x v, cs[i]? = some x → vs[i]? = some v → Rel α Im w x v) → mapO (snap n σ) cs = some ys → (∀ id ver fz sz xs l, id ∈ cs.flatMap (reach n σ) → σ.get id = some (.row ver fz sz xs) → α id ver = some l → J l.b) →
        vs.size = ys.length ∧ ∀ (i : Nat) x v, ys[i]? = some x → vs[i]? = some v → Rel Asg.none J w x v := by
      intro cs ys vs hsz hr hm hJ
      obtain ⟨m1, m2⟩ := mapO_spec hm
      refine ⟨by rw [hsz, m1], fun i x v hx hv => ?_⟩
      obtain ⟨c, h1, h2⟩ := m2 i x hx
      exact ih c v x (hr i c v h1 hv) h2 (fun id ver fz sz xs l hid => hJ id ver fz sz xs l (List.mem_flatMap.2 ⟨c, List.mem_of_getElem? h1, hid⟩))
    intro x v y hr h hJ
    cases hr with
    | undef v => simp only [snap, Option.some.injEq] at h; subst h; exact .undef v
    | sc v hv => simp only [snap, Option.some.injEq] at h; subst h; exact .sc v hv
    | nilp => simp only [snap, Option.some.injEq] at h; subst h; exact .nilp
    | nils => simp only [snap, Option.some.injEq] at h; subst h; exact .nils
    | emp a => simp only [snap, Option.some.injEq] at h; subst h; exact .emp a
    | nilm => simp only [snap, Option.some.injEq] at h; subst h; exact .nilm
    | nilf => simp only [snap, Option.some.injEq] at h; subst h; exact .nilf
    | map id l hl => simp only [snap] at h; cases h
    | lst0 a cap => simp only [snap, Option.some.injEq] at h; subst h; exact .lst0 a cap
    | lst xs b base sz cap f him hcap hsz hc hr =>
      simp only [snap, Option.some.injEq] at h
      subst h
      exact .lst xs b base sz cap f (hI _ him) hcap hsz hc (fun i x j y hi hj => (hr i x j y hi hj).mono (le_refl _) hI (fun _ _ => rfl))
    | iptr cs o b base f him hc hr =>
      simp only [snap, Option.some.injEq] at h
      subst h
      exact .iptr cs o b base f (hI _ him) hc (fun j x hj => (hr j x hj).mono (le_refl _) hI (fun _ _ => rfl))
    | func f cap vs hsz hr =>
      simp only [snap] at h
      obtain ⟨ys, hm, rfl⟩ := Option.map_eq_some_iff.1 h
      obtain ⟨h1, h2⟩ := lst_rel cap ys vs hsz hr hm hJ
      exact .func f ys vs h1 h2
    | agg cs vs hsz h1 hr =>
      simp only [snap] at h
      obtain ⟨ys, hm, rfl⟩ := Option.map_eq_some_iff.1 h
      obtain ⟨h2, h3⟩ := lst_rel cs ys vs hsz hr hm hJ
      exact .agg ys vs h2 h1 h3
    | tup cs vs hsz hr =>
      simp only [snap] at h
      obtain ⟨ys, hm, rfl⟩ := Option.map_eq_some_iff.1 h
      obtain ⟨h2, h3⟩ := lst_rel cs ys vs hsz hr hm hJ
      exact .tup ys vs h2 h3
    | ptr id ver i o l hl =>
      simp only [snap] at h
      split at h
      · rename_i fz sz xs hrow
        split at h
        · rename_i c hc
          obtain ⟨ys, hm, rfl⟩ := Option.map_eq_some_iff.1 h
          obtain ⟨g1, g2, g3, g4, _⟩ := rowAt_spec hs hrow hl
          obtain ⟨g8, g9⟩ := g4 i c hc
          obtain ⟨m1, m2⟩ := mapO_spec hm
          have hj : J l.b := hJ id ver fz sz xs l (by simp [reach]) g1 hl
          let f : Nat → Value := fun j => (w.cell? ⟨l.b, l.base + i * l.sz + j, none⟩).getD default
          have key : ∀ (j : Nat) z, ys[j]? = some z → w.cell? ⟨l.b, l.base + i * l.sz + j, none⟩ = some (f j) ∧ (f j).oneCell' = true ∧ Rel Asg.none J w z (f j) := fun j z hz => by
            obtain ⟨q, h1, h2⟩ := m2 j z hz
            obtain ⟨u, p1, p2, p3⟩ := g9 j q h1
            rw [← g2] at p1
            have e : f j = u := by simp only [f, p1, Option.getD_some]
            rw [e]
            exact ⟨p1, p2, ih q u z p3 h2 (fun id' ver' fz' sz' xs' l' hid => hJ id' ver' fz' sz' xs' l' (by
              simp only [reach, hrow, hc]
              exact List.mem_cons_of_mem _ (List.mem_flatMap.2 ⟨q, List.mem_of_getElem? h1, hid⟩)))⟩
          exact .iptr ys o l.b (l.base + i * l.sz) f hj (fun j z hz => ⟨(key j z hz).1, (key j z hz).2.1⟩) (fun j z hz => (key j z hz).2.2)
        · cases h
      · cases h
    | sl0 id ver off l a hl =>
      simp only [snap] at h
      split at h
      · split at h
        · simp [mapO] at h
          subst h
          exact .lst0 a 0
        · cases h
      · cases h
    | sl id ver off len cap l hl hcap hN =>
      simp only [snap] at h
      split at h
      · rename_i fz sz xs hrow
        split at h
        · rename_i hcond
          obtain ⟨c1, c2⟩ := hcond
          obtain ⟨ys, hm, rfl⟩ := Option.map_eq_some_iff.1 h
          obtain ⟨g1, g2, g3, g4, _⟩ := rowAt_spec hs hrow hl
          obtain ⟨m1, m2⟩ := mapO_spec hm
          have hlen : ((xs.drop off).take len).length = len := by rw [List.length_take, List.length_drop]; omega
          rw [hlen] at m1
          have hj : J l.b := hJ id ver fz sz xs l (by simp [reach]) g1 hl
          let f : Nat → Nat → Value := fun i j => (w.cell? ⟨l.b, l.base + off * l.sz + i * l.sz + j, none⟩).getD default
          have key : ∀ (i : Nat) c (j : Nat) z, ys[i]? = some c → c[j]? = some z → w.cell? ⟨l.b, l.base + off * l.sz + i * l.sz + j, none⟩ = some (f i j) ∧ (f i j).oneCell' = true ∧ Rel Asg.none J w z (f i j) := fun i c j z hc hz => by
            obtain ⟨q, h1, h2⟩ := m2 i c hc
            obtain ⟨n1, n2⟩ := mapO_spec h2
            obtain ⟨z', h3, h4⟩ := n2 j z hz
            have h1' : xs[off + i]? = some q := by
              rw [List.getElem?_take] at h1
              split at h1
              · rwa [List.getElem?_drop] at h1
              · cases h1
            obtain ⟨p0, p⟩ := g4 _ _ h1'
            obtain ⟨u, p1, p2, p3⟩ := p j z' h3
            rw [← g2, show l.base + (off + i) * l.sz + j = l.base + off * l.sz + i * l.sz + j by rw [Nat.add_mul]; omega] at p1
            have e : f i j = u := by simp only [f, p1, Option.getD_some]
            rw [e]
            exact ⟨p1, p2, ih z' u z p3 h4 (fun id' ver' fz' sz' xs' l' hid => hJ id' ver' fz' sz' xs' l' (by
              simp only [reach, hrow]
              exact List.mem_cons_of_mem _ (List.mem_flatMap.2 ⟨q, List.mem_of_getElem? h1, List.mem_flatMap.2 ⟨z', List.mem_of_getElem? h3, hid⟩⟩)))⟩
          have := Rel.lst (α := Asg.none) (Im := J) (w := w) ys l.b (l.base + off * l.sz) l.sz cap f hj (by rw [m1]; exact hcap) (fun i c hc => by
            obtain ⟨q, h1, h2⟩ := m2 i c hc
            obtain ⟨n1, _⟩ := mapO_spec h2
            have h1' : xs[off + i]? = some q := by
              rw [List.getElem?_take] at h1
              split at h1
              · rwa [List.getElem?_drop] at h1
              · cases h1
            rw [n1, (g4 _ _ h1').1, g2]) (fun i c j z hc hz => ⟨(key i c j z hc hz).1, (key i c j z hc hz).2.1⟩) (fun i c j z hc hz => (key i c j z hc hz).2.2)
          rwa [m1] at this
        · cases h
      · cases h

/-! ### Contracts -/
def HasBody (P : Program) (f : FuncId) : Prop := ∃ fn, P.funcs[f]? = some fn ∧ fn.body.isNone = false ∧ (fn.name == "runtime.NumGoroutine") = false

def RelL (α : Asg) (Im : Nat → Prop) (w : World) (xs : List AVal) (vs : Array Value) : Prop := vs.size = xs.length ∧ ∀ (i : Nat) x v, xs[i]? = some x → vs[i]? = some v → Rel α Im w x v

/-- Called with these values, over this store: what is answered and what the store is then. -/
def Good (P : Program) (f : FuncId) (args : List AVal) (σ : Store) (Q : AVal → Store → Prop) : Prop :=
  HasBody P f ∧ ∀ (α : Asg) (Im : Nat → Prop) (w : World) (cargs : Array Value), Sim α Im σ w → RelL α Im w args cargs →
    Calls P f cargs w fun e w' => ∃ v r σ' α' Im', e = .returned v ∧ Q r σ' ∧ Sim α' Im' σ' w' ∧ Rel α' Im' w' r v ∧ Step α Im σ w α' Im' σ' w'

/-- A pure call: values that nobody writes come in and out. -/
def PGood (P : Program) (f : FuncId) (args : List AVal) (r : AVal) : Prop :=
  HasBody P f ∧ ∀ (Im : Nat → Prop) (w : World) (cargs : Array Value), (∀ b, Im b → b < w.heap.size) → RelL Asg.none Im w args cargs →
    Calls P f cargs w fun e w' => ∃ v Im', e = .returned v ∧ (∀ b, Im b → Im' b) ∧ (∀ b, Im' b → b < w'.heap.size) ∧ (∀ b, Im' b → Im b ∨ w.heap.size ≤ b) ∧ Rel Asg.none Im' w' r v ∧ Blw w.heap.size w w'

theorem Good.mono {f : FuncId} {args : List AVal} {Q Q' : AVal → Store → Prop} (h : Good P f args σ Q) (hQ : ∀ r σ', Q r σ' → Q' r σ') : Good P f args σ Q' :=
  ⟨h.1, fun α Im w cargs hs hr => (h.2 α Im w cargs hs hr).mono fun e w' ⟨v, r, σ', α', Im', h1, h2, h3⟩ => ⟨v, r, σ', α', Im', h1, hQ _ _ h2, h3⟩⟩

/-- No part of it lies in memory. -/
def flat1 : AVal → Bool
  | .sc _ | .nilp | .nils | .emp | .nilm | .nilf | .lst [] => true
  | _ => false
def flatA : AVal → Bool
  | .agg cs => cs.all flat1
  | .tup cs => cs.all fun c => flat1 c || (match c with | .agg ds => ds.all flat1 | _ => false)
  | v => flat1 v

theorem flat1_rel {β : Asg} {Im' : Nat → Prop} {w' : World} {x : AVal} {v : Value} (h : flat1 x = true) (hr : Rel α Im w x v) : Rel β Im' w' x v := by
  cases hr with
  | sc v hv => exact .sc v hv
  | nilp => exact .nilp
  | nils => exact .nils
  | emp a => exact .emp a
  | nilm => exact .nilm
  | nilf => exact .nilf
  | lst0 a cap => exact .lst0 a cap
  | lst xs b base sz cap f him hcap hsz hc hr =>
    cases xs with
    | nil => exact .lst0 _ _
    | cons => simp [flat1] at h
  | _ => simp [flat1] at h
theorem flatA_rel {β : Asg} {Im' : Nat → Prop} {w' : World} {x : AVal} {v : Value} (h : flatA x = true) (hr : Rel α Im w x v) : Rel β Im' w' x v := by
  have aggs : ∀ (cs : List AVal) (v : Value), cs.all flat1 = true → Rel α Im w (.agg cs) v → Rel β Im' w' (.agg cs) v := fun cs v h hr => by
    cases hr with
    | agg _ vs hs h1 hr => exact .agg cs vs hs h1 (fun i x v hx hv => flat1_rel (List.all_eq_true.1 h x (List.mem_of_getElem? hx)) (hr i x v hx hv))
  cases x with
  | agg cs => exact aggs cs v h hr
  | tup cs =>
    cases hr with
    | tup _ vs hs hr =>
      refine .tup cs vs hs (fun i x v hx hv => ?_)
      have := List.all_eq_true.1 h x (List.mem_of_getElem? hx)
      rcases Bool.or_eq_true_iff.1 this with h1 | h1
      · exact flat1_rel h1 (hr i x v hx hv)
      · split at h1
        · exact aggs _ _ h1 (hr i _ v hx hv)
        · cases h1
  | _ => exact flat1_rel h hr

/-- Below the heap's old size nothing has turned. -/
theorem Sim.below {w' : World} (hs : Sim α Im σ w) (hb : Blw w.heap.size w w') : Sim α Im σ w' ∧ Step α Im σ w α Im σ w' := by
  have him : ∀ b, Im b → w'.heap[b]? = w.heap[b]? := fun b h => hb.block b (hs.im b h)
  refine ⟨⟨fun i o hi => ?_, hs.inj, fun b h => Nat.lt_of_lt_of_le (hs.im b h) hb.size, hs.fin⟩, ⟨le_refl α, fun _ h => h, hb.os, hb.tape, ⟨hb.output, hb.drawn⟩, hb.size, fun b h _ => hb.block b h, fun _ h => .inl h, fun _ h => .inl h⟩⟩
  refine (hs.obj i o hi).mono (le_refl α) (fun _ => rfl) (fun _ h => h) (fun _ _ h => h) him (fun l hl => hb.block _ ?_)
  obtain ⟨l', h1, h2⟩ := (hs.obj i o hi).hasLoc
  rw [hl] at h1
  exact (Option.some.inj h1) ▸ h2

/-- More memory that nobody writes. -/
theorem Sim.growIm {K : Nat → Prop} {B : Nat} (hs : Sim α Im σ w) (hI : ∀ b, Im b → K b) (hK : ∀ b, K b → b < w.heap.size) (hn : ∀ b, K b → Im b ∨ B ≤ b) (hold : ∀ i o l, σ.get i = some o → loc α i o = some l → l.b < B) : Sim α K σ w := by
  refine ⟨fun i o hi => ?_, hs.inj, hK, hs.fin⟩
  refine (hs.obj i o hi).mono (le_refl α) (fun _ => rfl) hI (fun l hl hk => ?_) (fun _ _ => rfl) (fun _ _ => rfl)
  rcases hn _ hk with h | h
  · exact h
  · have := hold i o l hi hl; omega

def snapL (n : Nat) (σ : Store) (args : List AVal) : Option (List AVal) := mapO (snap n σ) args
def reachL (n : Nat) (σ : Store) (args : List AVal) : List Nat := args.flatMap (reach n σ)
/-- The store behind a pure call: what was handed in stays as it is from then on, where something that lies in memory came back. -/
def after (n : Nat) (σ : Store) (args : List AVal) (r : AVal) : Store := if flatA r then σ else σ.freeze (fun id => (reachL n σ args).contains id)

theorem good_of_pgood {f : FuncId} {args xs : List AVal} {r : AVal} {Q : AVal → Store → Prop} (n : Nat) (hsnap : snapL n σ args = some xs) (hp : PGood P f xs r) (hQ : Q r (after n σ args r)) : Good P f args σ Q := by
  refine ⟨hp.1, fun α Im w cargs hs hr => ?_⟩
  obtain ⟨J, f1, f2, f3⟩ := hs.freeze (fun id => (reachL n σ args).contains id)
  obtain ⟨m1, m2⟩ := mapO_spec hsnap
  have hargs : RelL Asg.none J w xs cargs := ⟨by rw [hr.1, m1], fun i x v hx hv => by
    obtain ⟨y, h1, h2⟩ := m2 i x hx
    exact snap_rel hs f2.imle n y v x (hr.2 i y v h1 hv) h2 (fun id ver fz sz ys l hid hg hl => f3 id ver fz sz ys l hg (by
      simp only [List.contains_iff_mem, reachL]
      exact List.mem_flatMap.2 ⟨y, List.mem_of_getElem? h1, hid⟩) hl)⟩
  refine (hp.2 J w cargs f1.im hargs).mono ?_
  rintro e w' ⟨v, K, rfl, h1, h2, h3, h4, h5⟩
  by_cases hf : flatA r = true
  · obtain ⟨s1, s2⟩ := hs.below h5
    refine ⟨v, r, σ, α, Im, rfl, ?_, s1, flatA_rel hf h4, s2⟩
    simpa [after, hf] using hQ
  · have hf' : flatA r = false := by simpa using hf
    obtain ⟨s1, s2⟩ := f1.below h5
    have hold : ∀ i o l, (σ.freeze (fun id => (reachL n σ args).contains id)).get i = some o → loc α i o = some l → l.b < w.heap.size := fun i o l hi hl => by
      obtain ⟨l', k1, k2⟩ := (f1.obj i o hi).hasLoc
      rw [hl] at k1
      exact (Option.some.inj k1) ▸ k2
    have s3 := s1.growIm (K := K) (B := w.heap.size) h1 h2 h3 hold
    refine ⟨v, r, _, α, K, rfl, by simpa [after, hf'] using hQ, s3, h4.lift, f2.trans ?_⟩
    exact ⟨le_refl α, h1, s2.os, s2.tape, s2.output, s2.size, s2.unch, s2.own, fun b hb => by
      rcases h3 b hb with h | h
      · exact .inl h
      · exact .inr (.inr h)⟩

end
end Go.Ab

/- The code, and one operation of it. -/
set_option linter.unusedVariables false
set_option linter.unusedSimpArgs false
namespace Go.Ab

structure AOper where
  d : Option Nat
  op : AOp
  g : Option (Nat × Bool)
  pre : List Nat

inductive ACode where
  | skip
  | ret
  | reg (ops : List AOper) (draw : Bool) (keep : List Nat)
  | seq (a b : ACode)
  | cond (c : Operand) (a b : ACode)
  | block (id : Nat) (b : ACode)
  | loop (b : ACode)
  | exit (id : Nat)

def guardSlot (ops : Array Oper) : Option (Nat × Bool) → Option (Option (Nat × Bool))
  | none => some none
  | some (j, want) => match (ops[j]?).bind (·.dst) with
    | some s => some (some (s, want))
    | none => none
def dstOk (n : Nat) : Option Nat → Bool
  | some d => decide (d < n)
  | none => true
def stripOper (P : Program) (n : Nat) (ops : Array Oper) (draw : Bool) (o : Oper) : Option AOper :=
  match stripOp P o.op, guardSlot ops o.guard with
  | some a, some g => if dstOk n o.dst then some ⟨o.dst, a, g, if draw then (o.after.toList.filter (Region.binds .any)).map (·.on) else []⟩ else none
  | _, _ => none
def stripCode (P : Program) (n : Nat) (keep : Nat → List Nat) : Code → Option ACode
  | .skip => some .skip
  | .ret => some .ret
  | .region id ops draw => (mapO (stripOper P n ops draw) ops.toList).map fun l => .reg l draw (keep id)
  | .seq a b => match stripCode P n keep a, stripCode P n keep b with
    | some x, some y => some (.seq x y)
    | _, _ => none
  | .cond c a b => match stripCode P n keep a, stripCode P n keep b with
    | some x, some y => some (.cond c x y)
    | _, _ => none
  | .block id b => (stripCode P n keep b).map (.block id)
  | .loop b => (stripCode P n keep b).map .loop
  | .exit id => some (.exit id)
  | _ => none

/-! ### Frames -/
abbrev Fr := List (Nat × AVal)
def Fr.get : Fr → Nat → AVal
  | [], _ => .undef
  | (i, v) :: r, j => if i = j then v else Fr.get r j
def keepFr (keep : List Nat) (g : Nat → AVal) : Fr := keep.map fun s => (s, g s)
def put (g : Nat → AVal) (d : Nat) (v : AVal) : Nat → AVal := fun j => if j = d then v else g j
def putD (g : Nat → AVal) : Option Nat → AVal → Nat → AVal
  | some d, v => put g d v
  | none, _ => g

def guardA (g : Nat → AVal) : Option (Nat × Bool) → Option Bool
  | none => some true
  | some (s, want) => match g s with
    | .sc (.bool b) => some (b == want)
    | .tup [] => some false
    | _ => none

/-- An object that nobody writes any more. -/
def Fz (σ : Store) (id : Nat) : Prop := ∃ o, σ.get id = some o ∧ o.fz = true
def Calm (n : Nat) (σ : Store) (args : List AVal) (r : AVal) : Prop := (∀ id ∈ reachL n σ args, Fz σ id) ∨ flatA r = true
theorem calm_after {σ : Store} {n : Nat} {args : List AVal} {r : AVal} (h : Calm n σ args r) : after n σ args r = σ := by
  unfold after
  rcases h with h | h
  · split
    · rfl
    · refine Store.ext fun i => ?_
      rw [Store.get_freeze]
      cases hg : σ.get i with
      | none => rfl
      | some o =>
        cases o with
        | mp es => rfl
        | row ver fz sz xs =>
          simp only
          by_cases hm : i ∈ reachL n σ args
          · obtain ⟨o', h1, h2⟩ := h i hm
            rw [hg] at h1
            cases h1
            simp only [Obj.fz] at h2
            rw [h2]; rfl
          · simp [hm]
  · rw [if_pos h]
def wpRes (P : Program) : Res → (AVal → Store → Prop) → Store → Prop
  | .stuck, _, _ => False
  | .val v σ', K, _ => K v σ'
  | .new ob k, K, σ => ∀ id, σ.get id = none → K (k id) (σ.set id ob)
  | .call f args, K, σ => Good P f args σ K
  | .both x y, K, σ => K x σ ∧ K y σ
/-- In a region whose order is open: pure calls alone, and none that freezes. -/
def wpResD (P : Program) : Res → (AVal → Store → Prop) → Store → Prop
  | .stuck, _, _ => False
  | .val v σ', K, _ => K v σ'
  | .new ob k, K, σ => ∀ id, σ.get id = none → K (k id) (σ.set id ob)
  | .call f args, K, σ => ∃ n xs r, snapL n σ args = some xs ∧ PGood P f xs r ∧ Calm n σ args r ∧ K r σ
  | .both x y, K, σ => K x σ ∧ K y σ

def wpOper (P : Program) (o : AOper) (K : (Nat → AVal) → Store → Prop) (g : Nat → AVal) (σ : Store) : Prop :=
  match guardA g o.g with
  | none => False
  | some false => K (putD g o.d (.tup [])) σ
  | some true => wpRes P (stepA (aeval g) σ o.op) (fun v σ' => K (putD g o.d v) σ') σ
def wpOperD (P : Program) (o : AOper) (K : (Nat → AVal) → Store → Prop) (g : Nat → AVal) (σ : Store) : Prop :=
  match guardA g o.g with
  | none => False
  | some false => K (putD g o.d (.tup [])) σ
  | some true => wpResD P (stepA (aeval g) σ o.op) (fun v σ' => K (putD g o.d v) σ') σ
def wpOps (P : Program) (K : (Nat → AVal) → Store → Prop) : List AOper → (Nat → AVal) → Store → Prop
  | [], g, σ => K g σ
  | o :: r, g, σ => wpOper P o (wpOps P K r) g σ
def wpOpsD (P : Program) (K : (Nat → AVal) → Store → Prop) : List AOper → (Nat → AVal) → Store → Prop
  | [], g, σ => K g σ
  | o :: r, g, σ => wpOperD P o (wpOpsD P K r) g σ

section
variable {P : Program} {α : Asg} {Im : Nat → Prop} {σ : Store} {w : World} {a : Act} {n : Nat}

theorem wpResD_res {r : Res} {K : AVal → Store → Prop} (h : wpResD P r K σ) : wpRes P r K σ := by
  cases r with
  | stuck => exact h
  | val v σ' => exact h
  | new ob k => exact h
  | call f args =>
    obtain ⟨n, xs, r, h1, h2, h3, h4⟩ := h
    refine good_of_pgood n h1 h2 ?_
    rw [calm_after h3]
    exact h4
  | both x y => exact h
theorem wpOperD_oper {o : AOper} {K : (Nat → AVal) → Store → Prop} {g : Nat → AVal} (h : wpOperD P o K g σ) : wpOper P o K g σ := by
  unfold wpOperD at h
  unfold wpOper
  split at h
  · exact h
  · exact h
  · exact wpResD_res h

theorem wpRes_mono {r : Res} {K K' : AVal → Store → Prop} (hK : ∀ v σ', K v σ' → K' v σ') (h : wpRes P r K σ) : wpRes P r K' σ := by
  cases r with
  | stuck => exact h
  | val v σ' => exact hK _ _ h
  | new ob k => exact fun id hid => hK _ _ (h id hid)
  | call f args => exact Good.mono h hK
  | both x y => exact ⟨hK _ _ h.1, hK _ _ h.2⟩
theorem wpResD_mono {r : Res} {K K' : AVal → Store → Prop} (hK : ∀ v σ', K v σ' → K' v σ') (h : wpResD P r K σ) : wpResD P r K' σ := by
  cases r with
  | stuck => exact h
  | val v σ' => exact hK _ _ h
  | new ob k => exact fun id hid => hK _ _ (h id hid)
  | call f args =>
    obtain ⟨n, xs, r, h1, h2, h3, h4⟩ := h
    exact ⟨n, xs, r, h1, h2, h3, hK _ _ h4⟩
  | both x y => exact ⟨hK _ _ h.1, hK _ _ h.2⟩
theorem wpOper_mono {o : AOper} {K K' : (Nat → AVal) → Store → Prop} {g : Nat → AVal} (hK : ∀ g σ', K g σ' → K' g σ') (h : wpOper P o K g σ) : wpOper P o K' g σ := by
  unfold wpOper at *
  split at h
  · exact h
  · exact hK _ _ h
  · exact wpRes_mono (fun v σ' => hK _ _) h
theorem wpOperD_mono {o : AOper} {K K' : (Nat → AVal) → Store → Prop} {g : Nat → AVal} (hK : ∀ g σ', K g σ' → K' g σ') (h : wpOperD P o K g σ) : wpOperD P o K' g σ := by
  unfold wpOperD at *
  split at h
  · exact h
  · exact hK _ _ h
  · exact wpResD_mono (fun v σ' => hK _ _) h

/-! ### One operation, in the world -/
def GRel (α : Asg) (Im : Nat → Prop) (w : World) (g : Nat → AVal) (tmps : Array Value) : Prop := ∀ s, Rel α Im w (g s) (tmps.getD s undef)

theorem eval_rel {g : Nat → AVal} (h : GRel α Im w g a.tmps) (x : Operand) : Rel α Im w (aeval g x) (a.eval x) := by
  cases x with
  | tmp t => exact h t
  | const v => exact rel_ofConst v
  | global i => exact .undef _
  | func f => exact .func f [] #[] rfl (fun i x v hx => by simp at hx)

theorem GRel.put {g : Nat → AVal} (h : GRel α Im w g a.tmps) (hn : a.tmps.size = n) {d : Option Nat} (hd : dstOk n d = true) {v : AVal} {cv : Value} (hv : Rel α Im w v cv) : GRel α Im w (putD g d v) (a.put d cv).tmps := by
  cases d with
  | none => exact h
  | some d =>
    have hlt : d < a.tmps.size := by simp only [dstOk, decide_eq_true_eq] at hd; omega
    intro s
    show Rel α Im w (if s = d then v else g s) ((a.tmps.setIfInBounds d cv).getD s undef)
    by_cases e : s = d
    · subst e
      rw [if_pos rfl]
      simpa [hlt] using hv
    · rw [if_neg e]
      have := h s
      simpa [Array.getElem?_setIfInBounds_ne (fun x => e x.symm)] using this
theorem put_size (a : Act) (d : Option Nat) (v : Value) : (a.put d v).tmps.size = a.tmps.size := by cases d <;> simp [Act.put]
theorem put_defers (a : Act) (d : Option Nat) (v : Value) : (a.put d v).defers = a.defers := by cases d <;> rfl
theorem GRel.step {g : Nat → AVal} {β : Asg} {J : Nat → Prop} {τ : Store} {w' : World} {tmps : Array Value} (h : GRel α Im w g tmps) (hs : Sim α Im σ w) (hst : Step α Im σ w β J τ w') : GRel β J w' g tmps := fun s => hst.rel hs (h s)

theorem oper_sound {ops : Array Oper} {i : Nat} {o : Oper} {ao : AOper} {draw : Bool} (ho : ops[i]? = some o) (hst : stripOper P n ops draw o = some ao) {K : (Nat → AVal) → Store → Prop} {g : Nat → AVal} (hw : wpOper P ao K g σ)
    (hs : Sim α Im σ w) (hg : GRel α Im w g a.tmps) (hn : a.tmps.size = n) {Q : Exit → Act → World → Prop} {Kc : Act → World → Prop}
    (hK : ∀ g' σ' α' Im' a' w', K g' σ' → Sim α' Im' σ' w' → GRel α' Im' w' g' a'.tmps → a'.tmps.size = n → a'.defers = a.defers → Step α Im σ w α' Im' σ' w' → Kc a' w') : wpOp P ops Q i Kc a w := by
  unfold stripOper at hst
  split at hst
  · rename_i op g' hop hgs
    split at hst
    · rename_i hdst
      injection hst with hst
      subst hst
      unfold wpOp
      rw [ho]
      simp only
      unfold wpOper at hw
      -- the guard
      have hguard : ∀ t, guardA g g' = some t → Region.wanted o (yielded ops a.tmps) = t := by
        intro t ht
        unfold guardSlot at hgs
        unfold Region.wanted
        split at hgs
        · injection hgs with hgs
          subst hgs
          rename_i hgn
          rw [hgn]
          simp only [guardA, Option.some.injEq] at ht
          exact ht
        · rename_i j want hgn
          rw [hgn]
          split at hgs
          · rename_i s hsl
            injection hgs with hgs
            subst hgs
            simp only [guardA] at ht
            have hrel := hg s
            show (yielded ops a.tmps j == some want) = t
            split at ht
            · rename_i b hb
              rw [hb] at hrel
              have e := rel_sc_inv hrel
              injection ht with ht
              cases hx : a.tmps[s]? with
              | none => simp [hx, undef] at e
              | some v =>
                simp [hx] at e
                subst e
                simpa [yielded, hsl, hx] using ht
            · rename_i hb
              rw [hb] at hrel
              injection ht with ht
              subst ht
              cases hx : a.tmps[s]? with
              | none => simp [yielded, hsl, hx]
              | some v =>
                simp only [Array.getD_eq_getD_getElem?, hx, Option.getD_some] at hrel
                cases hrel
                simp [yielded, hsl, hx]
            · cases ht
          · cases hgs
      split at hw
      · exact hw.elim
      · rename_i hgd
        rw [hguard false hgd]
        refine hK _ _ α Im _ w hw hs (hg.put hn hdst (.tup [] #[] rfl (fun i x v hx => by simp at hx))) (by rw [put_size]; exact hn) (put_defers _ _ _) (Step.refl _ _ _ _)
      · rename_i hgd
        rw [hguard true hgd]
        left
        unfold Oper.wp
        have hρ := eval_rel (a := a) hg
        have hok := step_ok (P := P) (o := o) (a := a) (ρ := aeval g) hs hρ hop (fun q args e f caps hq => by
          subst e
          simp only [stepA, hq] at hw
          exact hw.1)
        generalize stepA (aeval g) σ op = res at hw hok
        cases res with
        | stuck => exact hw.elim
        | val v σ' =>
          obtain ⟨nx, w', α', h1, h2, h3, h4⟩ := hok
          rw [h1]
          rcases h2 with ⟨cv, rfl, hv⟩ | ⟨rfl, rfl⟩
          · exact hK _ _ α' Im _ w' hw h3 ((hg.step hs h4).put hn hdst hv) (by rw [put_size]; exact hn) (put_defers _ _ _) h4
          · exact hK _ _ α' Im _ w' hw h3 ((hg.step hs h4).put hn hdst (.tup [] #[] rfl (fun i x v hx => by simp at hx))) (by rw [put_size]; exact hn) (put_defers _ _ _) h4
        | new ob k =>
          obtain ⟨N1, hN1⟩ := hs.fin
          obtain ⟨N2, hN2⟩ := σ.fresh
          have hid := hN2 (max N1 N2) (by omega)
          obtain ⟨cv, w', α', h1, h2, h3, h4⟩ := hok (max N1 N2) hid (hN1 (max N1 N2) (by omega))
          rw [h1]
          exact hK _ _ α' Im _ w' (hw _ hid) h3 ((hg.step hs h4).put hn hdst h2) (by rw [put_size]; exact hn) (put_defers _ _ _) h4
        | call f args =>
          obtain ⟨cargs, h1, h2, h3⟩ := hok
          rw [h1]
          refine (hw.2 α Im w cargs hs ⟨h2, h3⟩).mono ?_
          rintro e w' ⟨v, r, σ', α', Im', rfl, k1, k2, k3, k4⟩
          exact hK _ _ α' Im' _ w' k1 k2 ((hg.step hs k4).put hn hdst k3) (by rw [put_size]; exact hn) (put_defers _ _ _) k4
        | both x y =>
          obtain ⟨cv, h1, h2⟩ := hok
          rw [h1]
          rcases h2 with h2 | h2
          · exact hK _ _ α Im _ w hw.1 hs (hg.put hn hdst h2) (by rw [put_size]; exact hn) (put_defers _ _ _) (Step.refl _ _ _ _)
          · exact hK _ _ α Im _ w hw.2 hs (hg.put hn hdst h2) (by rw [put_size]; exact hn) (put_defers _ _ _) (Step.refl _ _ _ _)
    · cases hst
  · cases hst

end
end Go.Ab
