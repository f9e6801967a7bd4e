/- A value semantics of Go code, sound for the model. -/
import Derived.WalkKit
import Derived.Deep.LoopGhost
import Derived.Laws.IdiomCopy
import Derived.Deep.MidRow
import Derived.Orders
import Derived.Maps.AppendAt
import Derived.Great.BuildSlice
import Derived.Laws.BytesString
namespace Go.VS
open Go Go.RowKit
set_option linter.unusedVariables false
set_option linter.unusedSimpArgs false

/-- A cell's value, without addresses. -/
inductive DV where
  | int (k : IntKind) (n : Int)
  | bool (b : Bool)
  | str (s : ByteArray)
  | nil
  | list (e : Nat) (xs : List (List DV))
  | fn (f : FuncId) (caps : List DV)
  | ptr (xs : List DV)
  | err (b : Bool)

/-- Names of memory that a call may write: the caller's ('par'), what an operation made ('loc': its slot); 'var': of slices without room. -/
inductive Tag where
  | nil
  | par (t : Tag)
  | loc (d : Nat) (t : Tag)
  | var (t : Nat)
  deriving DecidableEq
def Tag.isVar : Tag → Bool
  | .var _ => true
  | _ => false

/-- A cell's value during a call. -/
inductive LV where
  | d (x : DV)
  | top
  | own (g : Tag) (t : TypeId) (xs : List (List DV))
  | ptr (g : Tag) (off : Nat) (c : List LV)
  | eptr (g : Tag) (t : TypeId) (xs : List (List DV)) (i off : Nat)
  | dptr (c : List DV) (off : Nat)
  | clo (f : FuncId) (caps : List LV)
  | obj (g : Tag) (k : Nat) (x : DV)

inductive AV where
  | one (l : LV)
  | agg (ls : List LV)
  | tup (vs : List AV)

section
variable (w : World) (Φ : Nat → Prop)
/-- The cell's value v reads as x, in blocks of Φ. -/
inductive RC : Value → DV → Prop
  | int (k : IntKind) (n : Int) : RC (.int k n) (.int k n)
  | bool (b : Bool) : RC (.bool b) (.bool b)
  | str (s : ByteArray) : RC (.string s) (.str s)
  | nil : RC (.slice none 0 0) .nil
  | nil' (e : Nat) : RC (.slice none 0 0) (.list e [])
  | list (e : Nat) (xs : List (List DV)) (b o c : Nat) (cv : Nat → Value) (hc : xs.length ≤ c) (hm : c ≤ maxLen) (hb : xs ≠ [] → Φ b)
      (he : ∀ r, r ∈ xs → r.length = e) (hv : ∀ j, j < xs.length * e → w.cell? ⟨b, o + j, none⟩ = some (cv j))
      (hr : ∀ (i : Nat) r (j : Nat) x, xs[i]? = some r → r[j]? = some x → RC (cv (i * e + j)) x) : RC (.slice (some ⟨b, o, none⟩) xs.length c) (.list e xs)
  | fn (f : FuncId) (caps : List DV) (vs : Array Value) (hn : vs.size = caps.length) (h : ∀ (i : Nat) v x, vs[i]? = some v → caps[i]? = some x → RC v x) :
      RC (.func (.func f) #[] vs) (.fn f caps)
  | ptr (xs : List DV) (b o : Nat) (cv : Nat → Value) (hb : Φ b) (hv : ∀ j, j < xs.length → w.cell? ⟨b, o + j, none⟩ = some (cv j))
      (hr : ∀ (j : Nat) x, xs[j]? = some x → RC (cv j) x) : RC (.pointer (some ⟨b, o, none⟩)) (.ptr xs)
  | err0 : RC .nilIface (.err false)
  | err1 (t : TypeId) (v : Value) : RC (.iface t v) (.err true)
end

theorem RC.keep {w w' : World} {Φ Φ' : Nat → Prop} {v : Value} {x : DV} (h : RC w Φ v x) (hΦ : ∀ b, Φ b → Φ' b) (hw : ∀ b, Φ b → w'.heap[b]? = w.heap[b]?) : RC w' Φ' v x := by
  induction h with
  | int k n => exact .int k n
  | bool b => exact .bool b
  | str s => exact .str s
  | nil => exact .nil
  | nil' e => exact .nil' e
  | list e xs b o c cv hc hm hb he hv hr ih =>
    refine .list e xs b o c cv hc hm (fun h => hΦ b (hb h)) he (fun j hj => ?_) ih
    have hne : xs ≠ [] := by intro h; simp [h] at hj
    rw [World.cell?_of_block (w := w) (hw b (hb hne))]; exact hv j hj
  | fn f caps vs hn h ih => exact .fn f caps vs hn ih
  | ptr xs b o cv hb hv hr ih => exact .ptr xs b o cv (hΦ b hb) (fun j hj => by rw [World.cell?_of_block (w := w) (hw b hb)]; exact hv j hj) ih
  | err0 => exact .err0
  | err1 t v => exact .err1 t v

theorem RC.one {w : World} {Φ : Nat → Prop} {v : Value} {x : DV} (h : RC w Φ v x) : v.oneCell' = true := by cases h <;> rfl

/-- The program; what is known of its variables; classes of objects of which a property alone is told. -/
structure Ctx where
  P : Program
  G : World → Prop
  NG : Nat
  K : Nat → World → (Nat → Prop) → List Nat → Value → DV → Prop
  stableG : ∀ w w', (∀ b, b < NG → w'.heap[b]? = w.heap[b]?) → w'.os = w.os → w'.tape = w.tape → w'.output = w.output → G w → G w'
  stableK : ∀ k w w' Φ Φ' F v x, (∀ b, Φ b → Φ' b) → (∀ b, Φ b ∨ b ∈ F → w'.heap[b]? = w.heap[b]?) → K k w Φ F v x → K k w' Φ' F v x
  oneK : ∀ k w Φ F v x, K k w Φ F v x → v.oneCell' = true
  sizeG : ∀ w, G w → NG ≤ w.heap.size
  mixed : P.follows .mixedOrders = true

def tAgg (P : Program) (t : TypeId) : Option Bool :=
  match P.underlying t with
  | some (.struct _) | some (.array _ _) => some true
  | some _ => some false
  | none => none

/-- What a name stands for. -/
inductive TI where
  | none
  | arr (v : Value) (t : TypeId) (xs : List (List DV))
  | box (b : Nat) (c : List LV)
  | ob (F : List Nat) (k : Nat) (v : Value) (x : DV)

def TI.foot : TI → List Nat
  | .none => []
  | .arr v _ _ => v.ownBlock.toList
  | .box b _ => [b]
  | .ob F _ _ _ => F

section
variable (C : Ctx) (w : World) (Φ : Nat → Prop) (H : Tag → TI)
/-- The cell's value v, with what it owns. -/
inductive RL : Value → LV → Prop
  | d (v : Value) (x : DV) (h : RC w Φ v x) : RL v (.d x)
  | top (v : Value) (h1 : v.oneCell' = true) : RL v .top
  | own (g : Tag) (t : TypeId) (xs : List (List DV)) (v : Value) (h : H g = .arr v t xs) (h1 : v.oneCell' = true) : RL v (.own g t xs)
  | own0 (g : Tag) (t : TypeId) (hg : g.isVar = true) : RL (.slice none 0 0) (.own g t [])
  | ptr (g : Tag) (off : Nat) (c : List LV) (b : Nat) (h : H g = .box b c) : RL (.pointer (some ⟨b, off, none⟩)) (.ptr g off c)
  | eptr (g : Tag) (t : TypeId) (xs : List (List DV)) (i off : Nat) (b n cap : Nat) (h : H g = .arr (.slice (some ⟨b, 0, none⟩) n cap) t xs) (hi : i < xs.length) :
      RL (.pointer (some ⟨b, i * C.P.cellsOf t + off, none⟩)) (.eptr g t xs i off)
  | dptr (c : List DV) (off : Nat) (b o : Nat) (cv : Nat → Value) (hb : Φ b) (hv : ∀ j, j < c.length → w.cell? ⟨b, o + j, none⟩ = some (cv j)) (hr : ∀ (j : Nat) x, c[j]? = some x → RC w Φ (cv j) x) :
      RL (.pointer (some ⟨b, o + off, none⟩)) (.dptr c off)
  | clo (f : FuncId) (caps : List LV) (vs : Array Value) (hn : vs.size = caps.length) (h : ∀ (i : Nat) v l, vs[i]? = some v → caps[i]? = some l → RL v l) : RL (.func (.func f) #[] vs) (.clo f caps)
  | obj (g : Tag) (k : Nat) (x : DV) (F : List Nat) (v : Value) (h : H g = .ob F k v x) (h1 : v.oneCell' = true) : RL v (.obj g k x)

/-- A temporary's value. -/
inductive RA : Value → AV → Prop
  | one (v : Value) (l : LV) (h : RL C w Φ H v l) : RA v (.one l)
  | any (v : Value) : RA v (.one .top)
  | agg (ls : List LV) (vs : Array Value) (hn : vs.size = ls.length) (h : ∀ (i : Nat) v l, vs[i]? = some v → ls[i]? = some l → RL C w Φ H v l) : RA (.agg vs) (.agg ls)
  | tup (as : List AV) (vs : Array Value) (hn : vs.size = as.length) (h : ∀ (i : Nat) v a, vs[i]? = some v → as[i]? = some a → RA v a) : RA (.tuple vs) (.tup as)

/-- What a name stands for lies there. -/
inductive HOk : TI → Prop
  | none : HOk .none
  | arr (v : Value) (t : TypeId) (xs : List (List DV)) (vals : List Value) (ho : w.ownsRow C.NG t (C.P.cellsOf t) v xs.length vals)
      (he : ∀ r, r ∈ xs → r.length = C.P.cellsOf t) (hr : ∀ (i : Nat) r (j : Nat) x u, xs[i]? = some r → r[j]? = some x → vals[i * C.P.cellsOf t + j]? = some u → RC w Φ u x) : HOk (.arr v t xs)
  | box (b : Nat) (c : List LV) (cur : Array Value) (ty : TypeId) (hh : w.heap[b]? = some (.cells cur ty (0, 0))) (hn : cur.size = c.length)
      (hr : ∀ (j : Nat) l v, c[j]? = some l → cur[j]? = some v → RL C w Φ H v l) : HOk (.box b c)
  | ob (F : List Nat) (k : Nat) (v : Value) (x : DV) (h : C.K k w Φ F v x) : HOk (.ob F k v x)

structure HInv : Prop where
  disj : ∀ g h b, b ∈ (H g).foot → b ∈ (H h).foot → g = h
  nophi : ∀ g b, b ∈ (H g).foot → ¬ Φ b
  lt : ∀ g b, b ∈ (H g).foot → C.NG ≤ b ∧ b < w.heap.size
  phi : ∀ b, Φ b → b < w.heap.size
  ok : ∀ g, HOk C w Φ H (H g)
  novar : ∀ g, g.isVar = true → H g = .none
end

theorem RL.one {C : Ctx} {w : World} {Φ : Nat → Prop} {H : Tag → TI} {v : Value} {l : LV} (h : RL C w Φ H v l) : v.oneCell' = true := by
  cases h with
  | d v x h => exact h.one
  | top v h1 => exact h1
  | own g t xs v h h1 => exact h1
  | obj g k x F v h h1 => exact h1
  | _ => rfl

theorem RL.keep {C : Ctx} {w w' : World} {Φ Φ' : Nat → Prop} {H : Tag → TI} {v : Value} {l : LV} (h : RL C w Φ H v l) (hΦ : ∀ b, Φ b → Φ' b) (hw : ∀ b, Φ b → w'.heap[b]? = w.heap[b]?) : RL C w' Φ' H v l := by
  induction h with
  | d v x h => exact .d v x (h.keep hΦ hw)
  | top v h1 => exact .top v h1
  | own g t xs v h h1 => exact .own g t xs v h h1
  | own0 g t hg => exact .own0 g t hg
  | ptr g off c b h => exact .ptr g off c b h
  | eptr g t xs i off b n cap h hi => exact .eptr g t xs i off b n cap h hi
  | dptr c off b o cv hbb hv hr => exact .dptr c off b o cv (hΦ b hbb) (fun j hj => by rw [World.cell?_of_block (w := w) (hw b hbb)]; exact hv j hj) (fun j x hj => (hr j x hj).keep hΦ hw)
  | clo f caps vs hn h ih => exact .clo f caps vs hn ih
  | obj g k x F v h h1 => exact .obj g k x F v h h1

theorem RA.keep {C : Ctx} {w w' : World} {Φ Φ' : Nat → Prop} {H : Tag → TI} {v : Value} {a : AV} (h : RA C w Φ H v a) (hΦ : ∀ b, Φ b → Φ' b) (hw : ∀ b, Φ b → w'.heap[b]? = w.heap[b]?) : RA C w' Φ' H v a := by
  induction h with
  | one v l h => exact .one v l (h.keep hΦ hw)
  | any v => exact .any v
  | agg ls vs hn h => exact .agg ls vs hn (fun i v l h1 h2 => (h i v l h1 h2).keep hΦ hw)
  | tup as vs hn h ih => exact .tup as vs hn ih

theorem HOk.keep {C : Ctx} {w w' : World} {Φ Φ' : Nat → Prop} {H : Tag → TI} {i : TI} (h : HOk C w Φ H i) (hΦ : ∀ b, Φ b → Φ' b) (hw : ∀ b, Φ b → w'.heap[b]? = w.heap[b]?)
    (hf : ∀ b, b ∈ i.foot → w'.heap[b]? = w.heap[b]?) : HOk C w' Φ' H i := by
  cases h with
  | none => exact .none
  | arr v t xs vals ho he hr =>
    refine .arr v t xs vals ⟨ho.1, ?_⟩ he (fun i r j x u h1 h2 h3 => (hr i r j x u h1 h2 h3).keep hΦ hw)
    rcases ho.2 with hn | ⟨b, cap, cur, rfl, hbase, hh, rest⟩
    · exact .inl hn
    · exact .inr ⟨b, cap, cur, rfl, hbase, by rw [hf b (by simp [TI.foot, Value.ownBlock])]; exact hh, rest⟩
  | box b c cur ty hh hn hr => exact .box b c cur ty (by rw [hf b (by simp [TI.foot])]; exact hh) hn (fun j l v h1 h2 => (hr j l v h1 h2).keep hΦ hw)
  | ob F k v x h => exact .ob F k v x (C.stableK k w w' Φ Φ' F v x hΦ (fun b hb => hb.elim (hw b) (fun hm => hf b hm)) h)

/-- The world has grown: what Φ and the names speak of has not turned. -/
theorem HInv.keep {C : Ctx} {w w' : World} {Φ Φ' : Nat → Prop} {H : Tag → TI} (h : HInv C w Φ H) (hΦ : ∀ b, Φ b → Φ' b) (hΦ' : ∀ b, Φ' b → Φ b ∨ (w.heap.size ≤ b ∧ b < w'.heap.size))
    (hw : ∀ b, b < w.heap.size → w'.heap[b]? = w.heap[b]?) (hs : w.heap.size ≤ w'.heap.size) : HInv C w' Φ' H where
  disj := h.disj
  novar := h.novar
  nophi := fun g b hb hp => by
    rcases hΦ' b hp with hp | ⟨hp, _⟩
    · exact h.nophi g b hb hp
    · have := (h.lt g b hb).2; omega
  lt := fun g b hb => ⟨(h.lt g b hb).1, Nat.lt_of_lt_of_le (h.lt g b hb).2 hs⟩
  phi := fun b hb => by
    rcases hΦ' b hb with hp | ⟨_, hp⟩
    · exact Nat.lt_of_lt_of_le (h.phi b hp) hs
    · exact hp
  ok := fun g => (h.ok g).keep hΦ (fun b hb => hw b (h.phi b hb)) (fun b hb => hw b (h.lt g b hb).2)

/-! ### maps over what is known -/
mutual
def LV.up (φ : LV → LV) : LV → LV
  | .ptr g off c => φ (.ptr g off (LV.ups φ c))
  | .clo f caps => .clo f (LV.ups φ caps)
  | .own g t xs => φ (.own g t xs)
  | .eptr g t xs i off => φ (.eptr g t xs i off)
  | .obj g k x => φ (.obj g k x)
  | .d x => .d x
  | .top => .top
  | .dptr c off => .dptr c off
def LV.ups (φ : LV → LV) : List LV → List LV
  | [] => []
  | l :: ls => l.up φ :: LV.ups φ ls
end
mutual
def AV.up (φ : LV → LV) : AV → AV
  | .one l => .one (l.up φ)
  | .agg ls => .agg (LV.ups φ ls)
  | .tup vs => .tup (AV.ups φ vs)
def AV.ups (φ : LV → LV) : List AV → List AV
  | [] => []
  | l :: ls => l.up φ :: AV.ups φ ls
end
theorem LV.ups_eq (φ : LV → LV) (ls : List LV) : LV.ups φ ls = ls.map (LV.up φ) := by
  induction ls with
  | nil => rfl
  | cons l ls ih => simp [LV.ups, ih]
theorem AV.ups_eq (φ : LV → LV) (ls : List AV) : AV.ups φ ls = ls.map (AV.up φ) := by
  induction ls with
  | nil => rfl
  | cons l ls ih => simp [AV.ups, ih]

/-- A map over the leaves that fits a turn of the world and of the names. -/
structure Fits (C : Ctx) (w w' : World) (Φ Φ' : Nat → Prop) (H H' : Tag → TI) (φ : LV → LV) : Prop where
  phi : ∀ b, Φ b → Φ' b
  agree : ∀ b, Φ b → w'.heap[b]? = w.heap[b]?
  own : ∀ g t xs v, H g = .arr v t xs → v.oneCell' = true → RL C w' Φ' H' v (φ (.own g t xs))
  own0 : ∀ g t, g.isVar = true → RL C w' Φ' H' (.slice none 0 0) (φ (.own g t []))
  ptr : ∀ g off c b, H g = .box b c → RL C w' Φ' H' (.pointer (some ⟨b, off, none⟩)) (φ (.ptr g off (LV.ups φ c)))
  eptr : ∀ g t xs i off b n cap, H g = .arr (.slice (some ⟨b, 0, none⟩) n cap) t xs → i < xs.length → RL C w' Φ' H' (.pointer (some ⟨b, i * C.P.cellsOf t + off, none⟩)) (φ (.eptr g t xs i off))
  obj : ∀ g k x F v, H g = .ob F k v x → v.oneCell' = true → RL C w' Φ' H' v (φ (.obj g k x))

theorem RL.up {C : Ctx} {w w' : World} {Φ Φ' : Nat → Prop} {H H' : Tag → TI} {φ : LV → LV} {v : Value} {l : LV} (h : RL C w Φ H v l) (f : Fits C w w' Φ Φ' H H' φ) : RL C w' Φ' H' v (l.up φ) := by
  induction h with
  | d v x h => simp only [LV.up]; exact .d v x (h.keep f.phi f.agree)
  | top v h1 => simp only [LV.up]; exact .top v h1
  | own g t xs v h h1 => simp only [LV.up]; exact f.own g t xs v h h1
  | own0 g t hg => simp only [LV.up]; exact f.own0 g t hg
  | ptr g off c b h => simp only [LV.up]; exact f.ptr g off c b h
  | eptr g t xs i off b n cap h hi => simp only [LV.up]; exact f.eptr g t xs i off b n cap h hi
  | dptr c off b o cv hbb hv hr =>
    simp only [LV.up]
    exact .dptr c off b o cv (f.phi b hbb) (fun j hj => by rw [World.cell?_of_block (w := w) (f.agree b hbb)]; exact hv j hj) (fun j x hj => (hr j x hj).keep f.phi f.agree)
  | clo fn caps vs hn h ih =>
    simp only [LV.up]
    refine .clo fn _ vs (by simp [LV.ups_eq, hn]) (fun i v l h1 h2 => ?_)
    rw [LV.ups_eq, List.getElem?_map, Option.map_eq_some_iff] at h2
    obtain ⟨l0, h0, rfl⟩ := h2
    exact ih i v l0 h1 h0
  | obj g k x F v h h1 => simp only [LV.up]; exact f.obj g k x F v h h1

theorem RA.up {C : Ctx} {w w' : World} {Φ Φ' : Nat → Prop} {H H' : Tag → TI} {φ : LV → LV} {v : Value} {a : AV} (h : RA C w Φ H v a) (f : Fits C w w' Φ Φ' H H' φ) : RA C w' Φ' H' v (a.up φ) := by
  induction h with
  | one v l h => simp only [AV.up]; exact .one v _ (h.up f)
  | any v => simp only [AV.up, LV.up]; exact .any v
  | agg ls vs hn h =>
    simp only [AV.up]
    refine .agg _ vs (by simp [LV.ups_eq, hn]) (fun i v l h1 h2 => ?_)
    rw [LV.ups_eq, List.getElem?_map, Option.map_eq_some_iff] at h2
    obtain ⟨l0, h0, rfl⟩ := h2
    exact (h i v l0 h1 h0).up f
  | tup as vs hn h ih =>
    simp only [AV.up]
    refine .tup _ vs (by simp [AV.ups_eq, hn]) (fun i v l h1 h2 => ?_)
    rw [AV.ups_eq, List.getElem?_map, Option.map_eq_some_iff] at h2
    obtain ⟨l0, h0, rfl⟩ := h2
    exact ih i v l0 h1 h0
end Go.VS
namespace Go.VS
open Go Go.RowKit
set_option linter.unusedVariables false
set_option linter.unusedSimpArgs false

inductive UI where
  | dead
  | row (i off : Nat) (ds : List DV)
  | cells (off : Nat) (ls : List LV)
  | arr (t : TypeId) (xs : List (List DV))
  | box (c : List LV)

def repl {α : Type} (r : List α) (off : Nat) (ds : List α) : List α := r.take off ++ ds ++ r.drop (off + ds.length)
theorem length_repl {α : Type} (r : List α) (off : Nat) (ds : List α) (h : off + ds.length ≤ r.length) : (repl r off ds).length = r.length := by
  simp only [repl, List.length_append, List.length_take, List.length_drop]; omega
theorem repl_get {α : Type} (r : List α) (off : Nat) (ds : List α) (h : off + ds.length ≤ r.length) (j : Nat) :
    (repl r off ds)[j]? = if j < off then r[j]? else if j < off + ds.length then ds[j - off]? else r[j]? := by
  simp only [repl, List.getElem?_append, List.length_append, List.length_take, List.getElem?_take, List.getElem?_drop]
  have : min off r.length = off := by omega
  rw [this]
  by_cases h1 : j < off
  · have : j < off + ds.length := by omega
    simp [h1, this]
  · by_cases h2 : j < off + ds.length
    · simp [h1, h2]
    · simp only [h1, h2, if_false]
      congr 1; omega

/-- The map of a turn of names. -/
def ufun (U : Tag → Option UI) : LV → LV
  | .own g t xs => match U g with
    | none => .own g t xs
    | some (.row i off ds) => .own g t (xs.modify i (fun r => repl r off ds))
    | some (.arr t' xs') => .own g t' xs'
    | _ => .top
  | .ptr g o c => match U g with
    | none => .ptr g o c
    | some (.cells off ls) => .ptr g o (repl c off ls)
    | some (.box c') => .ptr g o c'
    | _ => .top
  | .eptr g t xs i o => match U g with
    | none => .eptr g t xs i o
    | some (.row i' off ds) => .eptr g t (xs.modify i' (fun r => repl r off ds)) i o
    | _ => .top
  | .obj g k x => match U g with
    | none => .obj g k x
    | _ => .top
  | l => l

def TI.up (φ : LV → LV) : TI → TI
  | .box b c => .box b (LV.ups φ c)
  | i => i
theorem TI.foot_up (φ : LV → LV) (i : TI) : (i.up φ).foot = i.foot := by cases i <;> rfl

theorem fits_ufun {C : Ctx} {w w' : World} {Φ Φ' : Nat → Prop} {H H' : Tag → TI} {U : Tag → Option UI} (h1 : ∀ b, Φ b → Φ' b) (h2 : ∀ b, Φ b → w'.heap[b]? = w.heap[b]?)
    (hv : ∀ g, g.isVar = true → U g = none)
    (h0 : ∀ g, U g = none → H' g = (H g).up (ufun U))
    (hrow : ∀ g i off ds v t xs, U g = some (.row i off ds) → H g = .arr v t xs → H' g = .arr v t (xs.modify i (fun r => repl r off ds)))
    (harr : ∀ g t' xs' v t xs, U g = some (.arr t' xs') → H g = .arr v t xs → H' g = .arr v t' xs')
    (hcells : ∀ g off ls b c, U g = some (.cells off ls) → H g = .box b c → H' g = .box b (repl (LV.ups (ufun U) c) off ls))
    (hbox : ∀ g c' b c, U g = some (.box c') → H g = .box b c → H' g = .box b c') : Fits C w w' Φ Φ' H H' (ufun U) where
  phi := h1
  agree := h2
  own := fun g t xs v hg h1 => by
    simp only [ufun]
    cases hu : U g with
    | none => exact .own g t xs v (by rw [h0 g hu, hg]; rfl) h1
    | some u => cases u with
      | row i off ds => exact .own g t _ v (hrow g i off ds v t xs hu hg) h1
      | arr t' xs' => exact .own g t' xs' v (harr g t' xs' v t xs hu hg) h1
      | _ => exact .top v h1
  own0 := fun g t hg => by simp only [ufun, hv g hg]; exact .own0 g t hg
  ptr := fun g off c b hg => by
    simp only [ufun]
    cases hu : U g with
    | none => exact .ptr g off _ b (by rw [h0 g hu, hg]; rfl)
    | some u => cases u with
      | cells o ls => exact .ptr g off _ b (hcells g o ls b c hu hg)
      | box c' => exact .ptr g off c' b (hbox g c' b c hu hg)
      | _ => exact .top _ rfl
  eptr := fun g t xs i off b n cap hg hi => by
    simp only [ufun]
    cases hu : U g with
    | none => exact .eptr g t xs i off b n cap (by rw [h0 g hu, hg]; rfl) hi
    | some u => cases u with
      | row i' o ds => exact .eptr g t _ i off b n cap (hrow g i' o ds _ t xs hu hg) (by simpa using hi)
      | _ => exact .top _ rfl
  obj := fun g k x F v hg h1 => by
    simp only [ufun]
    cases hu : U g with
    | none => exact .obj g k x F v (by rw [h0 g hu, hg]; rfl) h1
    | some u => exact .top v h1

/-! Nothing known of a name is left in the leaf: the map of a turn of other names. -/
mutual
def LV.noTag (g : Tag) : LV → Bool
  | .ptr h off c => h != g && LV.noTags g c
  | .clo f caps => LV.noTags g caps
  | .own h t xs => h != g
  | .eptr h t xs i off => h != g
  | .obj h k x => h != g
  | .d x => true
  | .top => true
  | .dptr c off => true
def LV.noTags (g : Tag) : List LV → Bool
  | [] => true
  | l :: ls => l.noTag g && LV.noTags g ls
end
mutual
theorem LV.up_noTag {U : Tag → Option UI} {g : Tag} (hU : ∀ h, h ≠ g → U h = none) : ∀ (l : LV), l.noTag g = true → l.up (ufun U) = l
  | .ptr h off c, hl => by
    simp only [LV.noTag, Bool.and_eq_true, bne_iff_ne, ne_eq] at hl
    simp only [LV.up, ufun, hU h hl.1, LV.ups_noTag hU c hl.2]
  | .clo f caps, hl => by
    simp only [LV.noTag] at hl
    simp only [LV.up, LV.ups_noTag hU caps hl]
  | .own h t xs, hl => by
    simp only [LV.noTag, bne_iff_ne, ne_eq] at hl
    simp only [LV.up, ufun, hU h hl]
  | .eptr h t xs i off, hl => by
    simp only [LV.noTag, bne_iff_ne, ne_eq] at hl
    simp only [LV.up, ufun, hU h hl]
  | .obj h k x, hl => by
    simp only [LV.noTag, bne_iff_ne, ne_eq] at hl
    simp only [LV.up, ufun, hU h hl]
  | .d x, _ => rfl
  | .top, _ => rfl
  | .dptr c off, _ => rfl
theorem LV.ups_noTag {U : Tag → Option UI} {g : Tag} (hU : ∀ h, h ≠ g → U h = none) : ∀ (ls : List LV), LV.noTags g ls = true → LV.ups (ufun U) ls = ls
  | [], _ => rfl
  | l :: ls, hl => by
    simp only [LV.noTags, Bool.and_eq_true] at hl
    simp only [LV.ups, LV.up_noTag hU l hl.1, LV.ups_noTag hU ls hl.2]
end

/-! ### what is frozen: it may be read, and is never written again -/
def LV.flat? : LV → Option DV
  | .d x => some x
  | _ => none
def LV.flats? : List LV → Option (List DV)
  | [] => some []
  | l :: ls => match l.flat?, LV.flats? ls with
    | some x, some xs => some (x :: xs)
    | _, _ => none
theorem LV.flats?_get : ∀ {ls : List LV} {ds : List DV}, LV.flats? ls = some ds → ds.length = ls.length ∧ ∀ j : Nat, ls[j]? = (ds[j]?).map LV.d
  | [], ds, h => by simp [LV.flats?] at h; subst h; simp
  | l :: ls, ds, h => by
    simp only [LV.flats?] at h
    cases l <;> simp only [LV.flat?] at h <;> try (exact absurd h (by simp))
    rename_i x
    cases hx : LV.flats? ls with
    | none => simp [hx] at h
    | some xs =>
      simp only [hx, Option.some.injEq] at h
      subst h
      obtain ⟨h1, h2⟩ := LV.flats?_get hx
      refine ⟨by simp [h1], fun j => ?_⟩
      cases j with
      | zero => simp
      | succ j => simpa using h2 j

def frz (P : Program) (p : Tag → Bool) : LV → LV
  | .own g t xs => if p g then .d (.list (P.cellsOf t) xs) else .own g t xs
  | .ptr g o c => if p g then (match LV.flats? c with | some ds => if o = 0 then .d (.ptr ds) else .dptr ds o | none => .top) else .ptr g o c
  | .eptr g t xs i o => if p g then .top else .eptr g t xs i o
  | .obj g k x => if p g then .top else .obj g k x
  | l => l
end Go.VS
namespace Go.VS
open Go Go.RowKit
set_option linter.unusedVariables false
set_option linter.unusedSimpArgs false

abbrev Env := List (Nat × AV)
def Env.get : Env → Nat → AV
  | [], _ => .one .top
  | (k, v) :: r, t => if k = t then v else Env.get r t
def Env.up (φ : LV → LV) : Env → Env
  | [] => []
  | (k, v) :: r => (k, v.up φ) :: Env.up φ r
def Env.prune (σ : Env) : List Nat → Env
  | [] => []
  | t :: r => (t, σ.get t) :: Env.prune σ r

/-- What a contract says of a function: which arguments it may write, and, of arguments in a certain form, what comes back. -/
structure PM where
  rw : Bool
  nils : List Nat
structure FS where
  rw : List PM
  post : List AV → Option (AV → List AV → Prop)

structure Sys where
  C : Ctx
  X : FuncId → Option FS
  n : Nat
  keep : Nat → List Nat
  loopKeep : Nat → List Nat

def constL : Value → LV
  | .int k n => .d (.int k n)
  | .bool b => .d (.bool b)
  | .string s => .d (.str s)
  | .slice none 0 0 => .d .nil
  | .nilIface => .d (.err false)
  | _ => .top
def constA : Value → AV
  | .agg cs => if cs.all (·.oneCell') then .agg (cs.toList.map constL) else .one .top
  | v => .one (constL v)
def Env.eval (n : Nat) (σ : Env) : Operand → AV
  | .tmp t => if t < n then σ.get t else .one .top
  | .const v => constA v
  | .global _ => .one .top
  | .func f => .one (.clo f [])

/-- A variable's leaves (of a value whose inside is known). -/
def AV.leaves : AV → Option (List LV)
  | .one .top => none
  | .one l => some [l]
  | .agg ls => some ls
  | .tup _ => none
/-- A list's elements, where the value is a slice; with what is given away when it is only read. -/
def LV.rows? (P : Program) : LV → Option (Nat × List (List DV) × List Tag)
  | .d .nil => some (0, [], [])
  | .d (.list e xs) => some (e, xs, [])
  | .own g t xs => some (P.cellsOf t, xs, [g])
  | _ => none
def LV.snapCaps : List LV → Option (List DV × List Tag)
  | [] => some ([], [])
  | .d x :: r => match LV.snapCaps r with | some (ds, T) => some (x :: ds, T) | none => none
  | .ptr g 0 c :: r => match LV.flats? c, LV.snapCaps r with | some ds, some (es, T) => some (.ptr ds :: es, g :: T) | _, _ => none
  | .dptr c 0 :: r => match LV.snapCaps r with | some (es, T) => some (.ptr c :: es, T) | none => none
  | _ => none
/-- What a leaf reads as, when it is handed on to be read. -/
def LV.snap (P : Program) : LV → Option (DV × List Tag)
  | .d x => some (x, [])
  | .own g t xs => some (.list (P.cellsOf t) xs, [g])
  | .ptr g 0 c => match LV.flats? c with | some ds => some (.ptr ds, [g]) | none => none
  | .dptr c 0 => some (.ptr c, [])
  | .clo f caps => match LV.snapCaps caps with | some (ds, T) => some (.fn f ds, T) | none => none
  | _ => none
def LV.snaps (P : Program) : List LV → Option (List DV × List Tag)
  | [] => some ([], [])
  | l :: r => match l.snap P, LV.snaps P r with
    | some (x, T), some (xs, T') => some (x :: xs, T ++ T')
    | _, _ => none
def AV.snap (P : Program) : AV → Option (AV × List Tag)
  | .one l => match l.snap P with | some (x, T) => some (.one (.d x), T) | none => none
  | .agg ls => match LV.snaps P ls with | some (xs, T) => some (.agg (xs.map .d), T) | none => none
  | .tup _ => none

/-- What a leaf is handed on as, where it may be written. -/
def LV.lend : LV → Option (LV × List Tag)
  | .d x => some (.d x, [])
  | .own g t xs => if g.isVar then some (.own (.par g) t [], []) else some (.own (.par g) t xs, [g])
  | .ptr g 0 c => match LV.flats? c with | some ds => some (.ptr (.par g) 0 c, [g]) | none => none
  | .obj g k x => some (.obj (.par g) k x, [g])
  | _ => none
def LV.lends : List LV → Option (List LV × List Tag)
  | [] => some ([], [])
  | l :: r => match l.lend, LV.lends r with
    | some (x, T), some (xs, T') => some (x :: xs, T ++ T')
    | _, _ => none
def AV.lend : AV → Option (AV × List Tag)
  | .one l => match l.lend with | some (x, T) => some (.one x, T) | none => none
  | .agg ls => match LV.lends ls with | some (xs, T) => some (.agg xs, T) | none => none
  | .tup _ => none
def fillL (rw : Bool) (j c : Nat) (l : LV) : LV :=
  match l, c with
  | .d .nil, c + 1 => if rw then .own (.var j) c [] else .d (.list c [])
  | .own (.var _) t _, _ => .own (.var j) t []
  | l, _ => l
def fillLs (rw : Bool) : Nat → List Nat → List LV → List LV
  | _, _, [] => []
  | j, [], l :: ls => fillL rw j 0 l :: fillLs rw (j + 1) [] ls
  | j, c :: cs, l :: ls => fillL rw j c l :: fillLs rw (j + 1) cs ls
def AV.fill (rw : Bool) (j : Nat) (nils : List Nat) : AV → AV
  | .one l => .one (fillL rw j (nils.headD 0) l)
  | .agg ls => .agg (fillLs rw j nils ls)
  | .tup vs => .tup vs
/-- The arguments as the callee has them; the names that it may write; the names that it may read. -/
def pass (P : Program) : Nat → List PM → List AV → Option (List AV × List Tag × List Tag)
  | _, _, [] => some ([], [], [])
  | j, ⟨true, ns⟩ :: rw, a :: as => match (a.fill true j ns).lend, pass P (j + 64) rw as with
    | some (x, T), some (xs, T', L) => some (x :: xs, T ++ T', L)
    | _, _ => none
  | j, ⟨false, ns⟩ :: rw, a :: as => match (a.fill false j ns).snap P, pass P (j + 64) rw as with
    | some (x, L), some (xs, T, L') => some (x :: xs, T, L ++ L')
    | _, _ => none
  | j, [], a :: as => match a.snap P, pass P j [] as with
    | some (x, L), some (xs, T, L') => some (x :: xs, T, L ++ L')
    | _, _ => none
/-- The names of what is nil and may be written (appended to). -/
def nilL : LV → List (Tag × TypeId)
  | .own (.par (.var j)) t _ => [(.var j, t)]
  | _ => []
def nilLs : List LV → List (Tag × TypeId)
  | [] => []
  | l :: r => nilL l ++ nilLs r
def nilA : AV → List (Tag × TypeId)
  | .one l => nilL l
  | .agg ls => nilLs ls
  | .tup _ => []
def nilAs : List AV → List (Tag × TypeId)
  | [] => []
  | a :: r => nilA a ++ nilAs r
def lookN : List (Tag × TypeId) → Tag → Option TypeId
  | [], _ => none
  | (g, t) :: r, h => if g = h then some t else lookN r h
/-- The names that a call's result brings: in the caller's naming. -/
def back (d : Nat) : Tag → Tag
  | .par g => g
  | .var t => .var t
  | τ => .loc d τ
/-- What comes back, in the caller's naming. -/
def Tag.lost : Tag → Bool
  | .par (.var _) => true
  | _ => false
def retL (d : Nat) : LV → LV
  | .own g t xs => if g.lost then .top else .own (back d g) t xs
  | .ptr g o c => if g.lost then .top else .ptr (back d g) o c
  | .eptr g t xs i o => if g.lost then .top else .eptr (back d g) t xs i o
  | .obj g k x => if g.lost then .top else .obj (back d g) k x
  | l => l

def DV.scalar : DV → Bool
  | .int .. | .bool _ | .str _ | .err _ => true
  | _ => false
def LV.scalar : LV → Bool
  | .d x => x.scalar
  | _ => false
def LV.scalars : List LV → Bool
  | [] => true
  | l :: r => l.scalar && LV.scalars r
def AV.scalar1 : AV → Bool
  | .one l => l.scalar
  | .agg ls => LV.scalars ls
  | .tup _ => false
def AV.scalars : List AV → Bool
  | [] => true
  | l :: r => l.scalar1 && AV.scalars r
def AV.scalar : AV → Bool
  | .tup vs => AV.scalars vs
  | a => a.scalar1

def ren (ρ : Tag → Tag) : LV → LV
  | .own g t xs => .own (ρ g) t xs
  | .ptr g o c => .ptr (ρ g) o c
  | .eptr g t xs i o => .eptr (ρ g) t xs i o
  | .obj g k x => .obj (ρ g) k x
  | l => l
/-- What a call has made of the names that it may write. -/
def outL : LV → LV → List (Tag × UI)
  | .own g t xs, .own (.par h) t' xs' => if g = h then [(g, .arr t' xs')] else []
  | .ptr g 0 c, .ptr (.par h) 0 c' => if g = h then (match LV.flats? c' with | some _ => [(g, .box c')] | none => []) else []
  | _, _ => []
def outLs : List LV → List LV → List (Tag × UI)
  | l :: ls, m :: ms => outL l m ++ outLs ls ms
  | _, _ => []
def outA : AV → AV → List (Tag × UI)
  | .one l, .one m => outL l m
  | .agg ls, .agg ms => outLs ls ms
  | _, _ => []
def outs : List AV → List AV → List (Tag × UI)
  | a :: as, b :: bs => outA a b ++ outs as bs
  | _, _ => []
def uget : List (Tag × UI) → Tag → Option UI
  | [], _ => none
  | (g, u) :: r, h => if g = h then some u else uget r h
/-- The turn of names behind a call that wrote. -/
def turn (T : List Tag) (us : List (Tag × UI)) (g : Tag) : Option UI :=
  if T.contains g then some ((uget us g).getD .dead) else none
def single (g : Tag) (u : UI) (h : Tag) : Option UI := if h = g then some u else none
/-- Names that the slots of D have given make way for new ones. -/
def age (D : List Nat) : Tag → Tag
  | .loc d t => if D.contains d then .loc d (.par t) else .loc d t
  | g => g
def among (L : List Tag) (g : Tag) : Bool := L.contains g

section
variable (S : Sys)
def wPut (dst : Option Tmp) (v : AV) (σ : Env) (k : Env → Prop) : Prop :=
  match dst with
  | some d => d < S.n ∧ k ((d, v) :: σ)
  | none => k σ

/-- A part, of type t, of a row of leaves. -/
def wPart (t : TypeId) (c : List LV) (off : Nat) (k : AV → Prop) : Prop :=
  S.C.P.cellsOf t ≠ 0 ∧ off + S.C.P.cellsOf t ≤ c.length ∧
  match tAgg S.C.P t with
  | some true => k (.agg ((c.drop off).take (S.C.P.cellsOf t)))
  | some false => match c[off]? with | some l => k (.one l) | none => False
  | none => False
def wLoad (t : TypeId) (a : AV) (k : AV → Prop) : Prop :=
  match a with
  | .one (.ptr g off c) => wPart S t c off k
  | .one (.dptr c off) => wPart S t (c.map .d) off k
  | .one (.eptr g t' xs i off) => wPart S t ((xs.getD i []).map .d) off k
  | _ => False

def wStore (t : TypeId) (a v : AV) (σ : Env) (k : Env → Prop) : Prop :=
  match v.leaves with
  | none => False
  | some ls => S.C.P.cellsOf t ≠ 0 ∧
    match a with
    | .one (.ptr g off c) => ls.length = S.C.P.cellsOf t ∧ off + ls.length ≤ c.length ∧ LV.noTags g ls = true ∧ k (σ.up (ufun (single g (.cells off ls))))
    | .one (.eptr g t' xs i off) => match LV.flats? ls with
      | none => False
      | some ds => ds.length = S.C.P.cellsOf t ∧ off + ds.length ≤ S.C.P.cellsOf t' ∧ k (σ.up (ufun (single g (.row i off ds))))
    | _ => False

def tOff (P : Program) (s : TypeId) (f : Nat) : Option (Nat × TypeId) :=
  match P.underlying s with
  | some (.struct fs) => (fs[f]?).map fun f => (f.offset, f.type)
  | _ => none
def tElem (P : Program) (t : TypeId) : Option TypeId :=
  match P.underlying t with
  | some (.slice e) => some e
  | _ => none
def tZero (P : Program) (t : TypeId) : Option (List Value) := ((P.info? t).bind (·.zero)).map fun z => z.cells.toList
/-- Are the sizes of a struct's fields known? -/
def tPlaces (P : Program) (t : TypeId) : Bool :=
  match P.underlying t with
  | some (.struct fs) => fs.toList.all fun f => P.cellsOf f.type != 0
  | _ => false
def zeroL (vs : List Value) : Option (List DV) := LV.flats? (vs.map constL)
/-- Of a row's cell: of how many cells its elements are, where it is a slice. -/
def slotOf (P : Program) (e : TypeId) (j : Nat) : Option Nat :=
  match P.underlying e with
  | some (.struct fs) => match fs.toList.find? (fun f => f.offset == j) with
    | some f => match P.underlying f.type with | some (.slice el) => some (P.cellsOf el) | _ => none
    | none => none
  | some (.slice el) => if j = 0 then some (P.cellsOf el) else none
  | _ => none
def fixDV (k : Option Nat) : DV → DV
  | .nil => match k with | some e => .list e [] | none => .nil
  | x => x
def fixRow (P : Program) (e : TypeId) : Nat → List DV → List DV
  | _, [] => []
  | j, x :: r => fixDV (slotOf P e j) x :: fixRow P e (j + 1) r
/-- A zero row: nil is a list without elements. -/
def zeroR (P : Program) (e : TypeId) (vs : List Value) : Option (List DV) := match zeroL vs with | some ds => some (fixRow P e 0 ds) | none => none

def wField (s : TypeId) (a : AV) (f : Nat) (k : AV → Prop) : Prop :=
  match tOff S.C.P s f with
  | none => False
  | some (o, ft) => S.C.P.cellsOf ft ≠ 0 ∧
    match a with
    | .one (.ptr g off c) => k (.one (.ptr g (off + o) c))
    | .one (.dptr c off) => k (.one (.dptr c (off + o)))
    | .one (.eptr g t xs i off) => k (.one (.eptr g t xs i (off + o)))
    | _ => False

def wIndexAddr (t : TypeId) (a i : AV) (k : AV → Prop) : Prop :=
  match tElem S.C.P t, i with
  | some e, .one (.d (.int _ n)) =>
    match a with
    | .one (.own g t' xs) => S.C.P.cellsOf e = S.C.P.cellsOf t' ∧ S.C.P.cellsOf e ≠ 0 ∧ 0 ≤ n ∧ n < xs.length ∧ k (.one (.eptr g t' xs n.toNat 0))
    | .one (.d (.list e' xs)) => S.C.P.cellsOf e = e' ∧ e' ≠ 0 ∧ 0 ≤ n ∧ n < xs.length ∧ k (.one (.dptr (xs.getD n.toNat []) 0))
    | _ => False
  | _, _ => False

def byteAt (s : ByteArray) (n : Int) : Int := ((s.data.toList.getD n.toNat 0).toNat : Int)

def wInt (op : BinOp) (kd : IntKind) (a b : Int) (k : DV → Prop) : Prop :=
  match op with
  | .add => k (.int kd (kd.wrap (a + b)))
  | .sub => k (.int kd (kd.wrap (a - b)))
  | .mul => k (.int kd (kd.wrap (a * b)))
  | .quo => b ≠ 0 ∧ k (.int kd (kd.wrap (a.tdiv b)))
  | .rem => b ≠ 0 ∧ k (.int kd (a.tmod b))
  | .and => k (.int kd (kd.wrap ((BitVec.ofInt kd.bits a &&& BitVec.ofInt kd.bits b).toNat)))
  | .or => k (.int kd (kd.wrap ((BitVec.ofInt kd.bits a ||| BitVec.ofInt kd.bits b).toNat)))
  | .xor => k (.int kd (kd.wrap ((BitVec.ofInt kd.bits a ^^^ BitVec.ofInt kd.bits b).toNat)))
  | .andNot => k (.int kd (kd.wrap ((BitVec.ofInt kd.bits a &&& ~~~ BitVec.ofInt kd.bits b).toNat)))
  | .eql => k (.bool (a == b))
  | .neq => k (.bool (a != b))
  | .lss => k (.bool (decide (a < b)))
  | .leq => k (.bool (decide (a ≤ b)))
  | .gtr => k (.bool (decide (a > b)))
  | .geq => k (.bool (decide (a ≥ b)))
  | _ => False

def tBool (P : Program) (t : TypeId) : Bool := match P.underlying t with | some .bool => true | _ => false
def tSlice (P : Program) (t : TypeId) : Bool := match P.underlying t with | some (.slice _) => true | _ => false
def tIface (P : Program) (t : TypeId) : Bool := match P.underlying t with | some (.interface _) => true | _ => false
def isConst : Operand → Bool | .const _ => true | _ => false

/-- Is the slice nil? -/
def LV.isNil : LV → Option Bool
  | .d .nil => some true
  | .d (.list _ (_ :: _)) => some false
  | .own _ _ (_ :: _) => some false
  | _ => none

def wNil (op : BinOp) (t : TypeId) (y : Operand) (l : LV) (k : DV → Prop) : Prop :=
  tSlice S.C.P t = true ∧ isConst y = true ∧ match l.isNil, op with
    | some z, .eql => k (.bool z)
    | some z, .neq => k (.bool (!z))
    | _, _ => False

def wBin (op : BinOp) (t : TypeId) (x y : Operand) (a b : AV) (k : DV → Prop) : Prop :=
  match a, b with
  | .one (.d (.int ka m)), .one (.d (.int kb n)) =>
    match op with
    | .shl => 0 ≤ n ∧ k (.int ka (ka.wrap (m * 2 ^ (min n.toNat ka.bits))))
    | .shr => 0 ≤ n ∧ k (.int ka (m.fdiv (2 ^ (min n.toNat ka.bits))))
    | _ => ka = kb ∧ wInt op ka m n k
  | .one (.d (.str m)), .one (.d (.str n)) =>
    match op with
    | .add => m.size + n.size ≤ 9223372036854775807 ∧ k (.str (m ++ n))
    | .eql => k (.bool (m.toList == n.toList))
    | .neq => k (.bool (!(m.toList == n.toList)))
    | _ => False
  | .one (.d (.bool m)), .one (.d (.bool n)) =>
    tBool S.C.P t = true ∧ match op with
    | .eql => k (.bool (m == n))
    | .neq => k (.bool (!(m == n)))
    | _ => False
  | .one (.d (.err m)), .one (.d (.err false)) =>
    tIface S.C.P t = true ∧ isConst y = true ∧ match op with
    | .eql => k (.bool (!m))
    | .neq => k (.bool m)
    | _ => False
  | .one l, .one (.d .nil) => wNil S op t y l k
  | _, _ => False

def tStr (P : Program) (t : TypeId) : Bool := match P.underlying t with | some .string => true | _ => false
def wLen (draw : Bool) (t : TypeId) (a : AV) (k : AV → Prop) : Prop :=
  match a with
  | .one (.d (.str s)) => tStr S.C.P t = true ∧ k (.one (.d (.int .i64 s.size)))
  | .one (.d .nil) => tSlice S.C.P t = true ∧ k (.one (.d (.int .i64 0)))
  | .one (.d (.list _ xs)) => tSlice S.C.P t = true ∧ ((draw = false → xs.length ≤ 9223372036854775807) → k (.one (.d (.int .i64 xs.length))))
  | .one (.own _ _ xs) => tSlice S.C.P t = true ∧ ((draw = false → xs.length ≤ 9223372036854775807) → k (.one (.d (.int .i64 xs.length))))
  | _ => False

/-- The most that is ever made at once. -/
def maxMade : Nat := 2147483648
def wAppend (mutOk : Bool) (d : Tmp) (e : TypeId) (a b : AV) (σ : Env) (k : AV → Env → Prop) : Prop :=
  match b with
  | .one lb => match lb.rows? S.C.P with
    | none => False
    | some (e', ys, _) => (ys = [] ∨ e' = S.C.P.cellsOf e) ∧ S.C.P.cellsOf e ≠ 0 ∧ S.C.P.bytesOf e ≤ 65536 ∧
      match a with
      | .one (.own g t xs) => t = e ∧ xs.length + ys.length ≤ maxMade ∧
          if g.isVar then (ys = [] → k (.one (.own (.var d) e [])) σ) ∧ (ys ≠ [] → k (.one (.own (.loc d .nil) e ys)) σ)
          else mutOk = true ∧ k (.one (.own (.loc d .nil) e (xs ++ ys))) (σ.up (ufun (single g .dead)))
      | .one (.d .nil) => ys.length ≤ maxMade ∧ (ys = [] → k (.one (.own (.var d) e [])) σ) ∧ (ys ≠ [] → k (.one (.own (.loc d .nil) e ys)) σ)
      | _ => False
  | _ => False

def optInt (dflt : Int) : Option AV → Option Int
  | none => some dflt
  | some (.one (.d (.int _ n))) => some n
  | _ => none

def wSlice (draw : Bool) (t : TypeId) (a : AV) (lo hi : Option AV) (σ : Env) (k : AV → Env → Prop) : Prop :=
  match a with
  | .one (.d (.str s)) =>
    tStr S.C.P t = true ∧
    match optInt 0 lo, optInt s.size hi with
    | some l, some h => 0 ≤ l ∧ l ≤ h ∧ h ≤ s.size ∧ k (.one (.d (.str (s.extract l.toNat h.toNat)))) σ
    | _, _ => False
  | .one l => match tElem S.C.P t, l.rows? S.C.P with
    | some e, some (e', xs, L) => (xs = [] ∨ e' = S.C.P.cellsOf e) ∧ S.C.P.cellsOf e ≠ 0 ∧
      match optInt 0 lo, optInt xs.length hi with
      | some l, some h => 0 ≤ l ∧ l ≤ h ∧ h ≤ xs.length ∧ if L = [] then k (.one (.d (.list (S.C.P.cellsOf e) ((xs.take h.toNat).drop l.toNat)))) σ
          else draw = false ∧ k (.one (.d (.list (S.C.P.cellsOf e) ((xs.take h.toNat).drop l.toNat)))) (σ.up (frz S.C.P (among L)))
      | _, _ => False
    | _, _ => False
  | _ => False

/-- A struct's leaves out of its parts. -/
def wParts (t : TypeId) (ev : Operand → AV) : List (Nat × Operand) → List LV → Option (List LV)
  | [], ls => some ls
  | (i, x) :: r, ls => match tOff S.C.P t i, (ev x).leaves with
    | some (o, ft), some ms => if ms.length = S.C.P.cellsOf ft ∧ o + ms.length ≤ ls.length then wParts t ev r (repl ls o ms) else none
    | _, _ => none
/-- A list's rows out of its parts, with the names that are given away. -/
def wRows (sz : Nat) (ev : Operand → AV) : List (Nat × Operand) → List (List DV) → List Tag → Option (List (List DV) × List Tag)
  | [], xs, T => some (xs, T)
  | (i, x) :: r, xs, T => match (ev x).leaves with
    | some ms => match LV.snaps S.C.P ms with
      | some (ds, T') => if ds.length = sz ∧ i < xs.length then wRows sz ev r (xs.set i ds) (T ++ T') else none
      | none => none
    | none => none

def wBool (a : AV) (k : Bool → Prop) : Prop :=
  match a with
  | .one (.d (.bool b)) => k b
  | _ => False
def AV.bool? : AV → Option Bool
  | .one (.d (.bool b)) => some b
  | _ => none
def pickA (b : Bool) (x y : AV) : AV :=
  match x.bool?, y.bool? with
  | some p, some q => .one (.d (.bool (bif b then p else q)))
  | _, _ => if b then x else y

def wMinMax (isMax : Bool) (as : List AV) (k : DV → Prop) : Prop :=
  match as with
  | [.one (.d (.int ka m)), .one (.d (.int kb n))] => ka = kb ∧ k (.int ka (if isMax then max m n else min m n))
  | _ => False

def rowsU8 : List (List DV) → Option (List Int)
  | [] => some []
  | [.int .u8 n] :: r => match rowsU8 r with | some l => some (n :: l) | none => none
  | _ => none
/-- A string out of bytes. -/
def wConvB (src dst : TypeId) (l : LV) (k : DV → Prop) : Prop :=
  match l.rows? S.C.P with
  | some (_, xs, _) => match S.C.P.underlying src, S.C.P.underlying dst with
    | some (.slice e), some .string => S.C.P.underlying e = some (.int .u8) ∧ match rowsU8 xs with
      | some ns => k (.str ⟨(ns.map fun n => UInt8.ofNat n.toNat).toArray⟩)
      | none => False
    | _, _ => False
  | none => False
def wConvert (src dst : TypeId) (a : AV) (k : DV → Prop) : Prop :=
  match a with
  | .one (.d (.int _ n)) => match S.C.P.underlying src, S.C.P.underlying dst with
    | some (.int _), some (.int kd) => k (.int kd (kd.wrap n))
    | _, _ => False
  | .one (.d (.str s)) => match S.C.P.underlying src, S.C.P.underlying dst with
    | some .string, some .string => k (.str s)
    | _, _ => False
  | .one l => wConvB S src dst l k
  | _ => False

def capsOf (ev : Operand → AV) : List Operand → Option (List LV)
  | [] => some []
  | x :: r => match ev x, capsOf ev r with
    | .one .top, _ => none
    | .one l, some ls => some (l :: ls)
    | _, _ => none

def wCall (draw : Bool) (dst : Option Tmp) (n : FuncId) (args : List AV) (σ : Env) (k : Env → Prop) : Prop :=
  match S.X n with
  | none => False
  | some F => match pass S.C.P 0 F.rw args with
    | none => False
    | some (as, T, L) => match F.post as with
      | none => False
      | some R => (T.Nodup ∧ ((nilAs as).map Prod.fst).Nodup ∧ (∀ g, g ∈ T → g ∉ L) ∧ (∃ r o, R r o)) ∧ ∀ r o, R r o →
        if T = [] ∧ r.scalar = true then wPut S dst r σ k
        else match dst with
          | none => False
          | some d => if T = [] ∧ L = [] then wPut S (some d) (r.up (retL d)) σ k
            else draw = false ∧ wPut S (some d) (r.up (retL d)) ((σ.up (frz S.C.P (among L))).up (ufun (turn T (outs args o)))) k

/-- A call. -/
def wCallOp (draw mutOk : Bool) (dst : Option Tmp) (c : Call) (σ : Env) (k : Env → Prop) : Prop :=
  match c.callee with
  | .builtin .len => match c.args.toList, c.argTypes.toList with
    | [x], [t] => wLen S draw t (σ.eval S.n x) fun v => wPut S dst v σ k
    | _, _ => False
  | .builtin .append => match dst, c.args.toList, c.argTypes.toList with
    | some d, [x, y], [t, t'] => match tElem S.C.P t with
      | some e => t' = t ∧ (tZero S.C.P e).map List.length = some (S.C.P.cellsOf e) ∧ wAppend S mutOk d e (σ.eval S.n x) (σ.eval S.n y) σ fun v σ' => wPut S (some d) v σ' k
      | none => False
    | _, _, _ => False
  | .builtin .max => match c.args.toList with
    | [x, y] => wMinMax true [σ.eval S.n x, σ.eval S.n y] fun v => wPut S dst (.one (.d v)) σ k
    | _ => False
  | .builtin .min => match c.args.toList with
    | [x, y] => wMinMax false [σ.eval S.n x, σ.eval S.n y] fun v => wPut S dst (.one (.d v)) σ k
    | _ => False
  | .value f => match σ.eval S.n f with
    | .one (.clo f caps) => wCall S draw dst f (c.args.toList.map (σ.eval S.n) ++ caps.map .one) σ k
    | .one (.d (.fn f caps)) => wCall S draw dst f (c.args.toList.map (σ.eval S.n) ++ caps.map (fun c => .one (.d c))) σ k
    | _ => False
  | _ => False

/-- One operation. -/
def wOp (draw mutOk : Bool) (o : Oper) (σ : Env) (k : Env → Prop) : Prop :=
  match o.op with
  | .move x | .assign x => wPut S o.dst (σ.eval S.n x) σ k
  | .pick c a b => wBool (σ.eval S.n c) fun t => wPut S o.dst (pickA t (σ.eval S.n a) (σ.eval S.n b)) σ k
  | .load t a => wLoad S t (σ.eval S.n a) fun v => wPut S o.dst v σ k
  | .store t a x => mutOk = true ∧ o.dst = none ∧ wStore S t (σ.eval S.n a) (σ.eval S.n x) σ k
  | .fieldAddr s x f => wField S s (σ.eval S.n x) f fun v => wPut S o.dst v σ k
  | .indexAddr t x i => wIndexAddr S t (σ.eval S.n x) (σ.eval S.n i) fun v => wPut S o.dst v σ k
  | .index t x i =>
    match σ.eval S.n x, σ.eval S.n i, S.C.P.underlying t with
    | .one (.d (.str s)), .one (.d (.int _ n)), some .string => 0 ≤ n ∧ n < s.size ∧ wPut S o.dst (.one (.d (.int .u8 (byteAt s n)))) σ k
    | _, _, _ => False
  | .field t x f =>
    match tOff S.C.P t f, σ.eval S.n x with
    | some (off, ft), .agg ls => wPart S ft ls off fun v => wPut S o.dst v σ k
    | _, _ => False
  | .binOp op t x y _ => wBin S op t x y (σ.eval S.n x) (σ.eval S.n y) fun v => wPut S o.dst (.one (.d v)) σ k
  | .unOp op _ x => match op, σ.eval S.n x with
    | .not, .one (.d (.bool b)) => wPut S o.dst (.one (.d (.bool (!b)))) σ k
    | .neg, .one (.d (.int kd n)) => wPut S o.dst (.one (.d (.int kd (kd.wrap (0 - n))))) σ k
    | _, _ => False
  | .convert src dst x => wConvert S src dst (σ.eval S.n x) fun v => wPut S o.dst (.one (.d v)) σ k
  | .extract x i => match σ.eval S.n x with
    | .tup vs => match vs[i]? with | some v => wPut S o.dst v σ k | none => False
    | _ => False
  | .nilCheck x => match σ.eval S.n x with
    | .one (.ptr g off c) => wPut S o.dst (.one (.ptr g off c)) σ k
    | .one (.eptr g t xs i off) => wPut S o.dst (.one (.eptr g t xs i off)) σ k
    | .one (.dptr c off) => wPut S o.dst (.one (.dptr c off)) σ k
    | _ => False
  | .makeFunc (.func f) first captured => first = #[] ∧ match capsOf (σ.eval S.n) captured.toList with
    | some ls => wPut S o.dst (.one (.clo f ls)) σ k
    | none => False
  | .box t x => match o.dst, (σ.eval S.n x).leaves with
    | some d, some ls => wPut S (some d) (.one (.ptr (.loc d .nil) 0 ls)) σ k
    | _, _ => False
  | .alloc t => match o.dst, (tZero S.C.P t).bind zeroL with
    | some d, some ds => wPut S (some d) (.one (.ptr (.loc d .nil) 0 (ds.map .d))) σ k
    | _, _ => False
  | .build t parts => match tPlaces S.C.P t, (tZero S.C.P t).bind zeroL with
    | true, some ds => match wParts S t (σ.eval S.n) parts.toList (ds.map .d) with
      | some ls => wPut S o.dst (.agg ls) σ k
      | none => False
    | _, _ => False
  | .buildSlice t len parts => match o.dst, tElem S.C.P t with
    | some d, some e => match (tZero S.C.P e).bind (zeroR S.C.P e) with
      | some z => z.length = S.C.P.cellsOf e ∧ S.C.P.cellsOf e ≠ 0 ∧ len * S.C.P.cellsOf e ≤ 65536 ∧ match wRows S (S.C.P.cellsOf e) (σ.eval S.n) parts.toList (List.replicate len z) [] with
        | some (xs, T) => if len = 0 then wPut S (some d) (.one (.own (.loc d .nil) e [])) σ k
            else if T = [] then wPut S (some d) (.one (.own (.loc d .nil) e xs)) σ k
            else draw = false ∧ wPut S (some d) (.one (.own (.loc d .nil) e xs)) (σ.up (frz S.C.P (among T))) k
        | none => False
      | none => False
    | _, _ => False
  | .makeSlice t len cap => match o.dst, tElem S.C.P t, σ.eval S.n len, σ.eval S.n cap with
    | some d, some e, .one (.d (.int _ m)), .one (.d (.int _ n)) => match (tZero S.C.P e).bind (zeroR S.C.P e) with
      | some z => z.length = S.C.P.cellsOf e ∧ m = n ∧ 0 ≤ n ∧ n ≤ maxMade ∧ S.C.P.bytesOf e ≤ 65536 ∧ S.C.P.cellsOf e ≠ 0 ∧
          wPut S (some d) (.one (.own (.loc d .nil) e (List.replicate n.toNat z))) σ k
      | none => False
    | _, _, _, _ => False
  | .slice t x lo hi none => wSlice S draw t (σ.eval S.n x) (lo.map (σ.eval S.n)) (hi.map (σ.eval S.n)) σ fun v σ' => wPut S o.dst v σ' k
  | .call c => wCallOp S draw mutOk o.dst c σ k
  | _ => False

/-- What is done, by what the guard's slot holds: a Bool, or nothing (where the guard's own operation was not done). -/
def wSkip (a : AV) (want : Bool) (p q : Prop) : Prop :=
  match a with
  | .one (.d (.bool b)) => (b = want → p) ∧ (b = !want → q)
  | .tup [] => q
  | _ => False
/-- The slot that tells whether an operation is done. -/
def guardSlot (ops : List Oper) (j : Nat) : Option Tmp := (ops[j]?).bind (·.dst)
def wGuard (draw mutOk : Bool) (all : List Oper) (o : Oper) (σ : Env) (k : Env → Prop) : Prop :=
  match o.guard with
  | none => wOp S draw mutOk o σ k
  | some (j, want) => match guardSlot all j with
    | none => False
    | some t => t < S.n ∧ wSkip (σ.get t) want (wOp S draw mutOk o σ k) (wPut S o.dst (.tup []) σ k)
/-- The operations in the order of the text. 'mutOk i': operation i may write. -/
def wOps (draw : Bool) (mutOk : Nat → Bool) (all : List Oper) : Nat → List Oper → Env → (Env → Prop) → Prop
  | _, [], σ, k => k σ
  | i, o :: r, σ, k => wGuard S draw (mutOk i) all o σ fun σ' => wOps draw mutOk all (i + 1) r σ' k

/-- The operations that give new names. -/
def creates : Op → Bool
  | .alloc _ | .box .. | .buildSlice .. | .makeSlice .. => true
  | .call c => match c.callee with
    | .value _ | .builtin .append => true
    | _ => false
  | _ => false
def creator (c : Bool) (d : Option Tmp) (r : List Nat) : List Nat :=
  match c, d with
  | true, some d => d :: r
  | _, _ => r
def creators : List Oper → List Nat
  | [] => []
  | o :: r => creator (creates o.op) o.dst (creators r)

/-- Each slot of an operation that gives a name is written by it alone. -/
def sole (ops : List Oper) : Bool := ops.all fun o => !creates o.op || (match o.dst with | none => true | some d => (ops.filter (fun o' => o'.dst == some d)).length ≤ 1)
/-- All that stands before operation j in every order (a list of their numbers), by the edges. -/
def ancs (ops : List Oper) : List (List Nat) :=
  ops.foldl (fun acc o => acc ++ [o.after.toList.foldl (fun s e => if Region.binds .any e then s ++ e.on :: (acc.getD e.on []) else s) []]) []
def structural : Op → Bool
  | .move _ | .fieldAddr .. => true
  | _ => false
/-- May operation j write, in a region that draws its order? -/
def mutOkAt (ops : List Oper) (j : Nat) : Bool :=
  (List.range j).all (fun i => ((ancs ops).getD j []).contains i) &&
  (List.range ops.length).all fun l => l ≤ j || ((ancs ops).getD l []).contains j || (((ops[l]?).map fun o => structural o.op && o.guard.isNone).getD true)
/-- A region that draws its order may be taken in the order of its text: edges go back; what has no order does not hear of one another. -/
def calm (ops : Array Oper) : Bool :=
  (List.range ops.size).all fun j => match ops[j]? with
    | none => true
    | some o => (o.after.toList.all fun e => !Region.binds .any e || decide (e.on < j)) &&
      (List.range j).all fun i => ((ancs ops.toList).getD j []).contains i || (match ops[i]? with | none => true | some o' => o'.apart ops o)

inductive Ex where
  | normal
  | exit (id : Nat)
  | ret

/-- A nil slice is taken for one without room. -/
inductive Ad where
  | tmp (t : Nat) (ty : TypeId)
  | cell (g : Tag) (off : Nat) (ty : TypeId)
def adoptTmp (t : Nat) (ty : TypeId) : Env → Env
  | [] => []
  | (k, v) :: r => if k = t then (match v with | .one (.d .nil) => (k, .one (.own (.var t) ty [])) :: r | _ => (k, v) :: r) else (k, v) :: adoptTmp t ty r
def adoptL (g : Tag) (off : Nat) (ty : TypeId) : LV → LV
  | .ptr h o c => if h = g then (match c[off]? with | some (.d .nil) => .ptr h o (c.set off (.own (.var off) ty [])) | _ => .ptr h o c) else .ptr h o c
  | l => l
def Env.adopt (σ : Env) : List Ad → Env
  | [] => σ
  | .tmp t ty :: r => (adoptTmp t ty σ).adopt r
  | .cell g off ty :: r => Env.adopt (σ.up (adoptL g off ty)) r

def wCode : Nat → Code → (Ex → Env → Prop) → Env → Prop
  | _, .skip, Q, σ => Q .normal σ
  | _, .region id ops draw, Q, σ => sole ops.toList = true ∧ (draw = true → calm ops = true) ∧ wOps S draw (fun j => !draw || mutOkAt ops.toList j) ops.toList 0 ops.toList (σ.up (ren (age (creators ops.toList)))) fun σ' => Q .normal (σ'.prune (S.keep id))
  | c, .seq a b, Q, σ => wCode c a (fun e σ' => match e with | .normal => wCode c b Q σ' | e => Q e σ') σ
  | c, .cond x a b, Q, σ => wBool (σ.eval S.n x) fun t => (t = true → wCode c a Q σ) ∧ (t = false → wCode c b Q σ)
  | _, .block id body, Q, σ => wCode id body (fun e σ' => match e with | .exit i => if i = id then Q .normal σ' else Q (.exit i) σ' | e => Q e σ') σ
  | c, .loop body, Q, σ => ∃ (ad : List Ad) (I : Nat → Env → Prop) (n : Nat), I n ((σ.prune (S.loopKeep c)).adopt ad) ∧
      ∀ n σ, I n σ → wCode c body (fun e σ' => match e with | .normal => ∃ m, m < n ∧ I m (σ'.prune (S.loopKeep c)) | e => Q e σ') σ
  | _, .exit id, Q, σ => Q (.exit id) σ
  | _, .ret, Q, σ => Q .ret σ
  | _, _, _, _ => False
end
end Go.VS
namespace Go.VS
open Go Go.RowKit
set_option linter.unusedVariables false
set_option linter.unusedSimpArgs false

/-- What has become of the world since a call began. -/
structure Fr (w0 : World) (Φ0 : Nat → Prop) (H0 : Tag → TI) (w : World) (Φ : Nat → Prop) (H : Tag → TI) : Prop where
  size : w0.heap.size ≤ w.heap.size
  os : w.os = w0.os
  tape : w.tape = w0.tape
  output : w.output = w0.output
  block : ∀ b, b < w0.heap.size → (∀ g, b ∉ (H0 g).foot) → w.heap[b]? = w0.heap[b]?
  phi : ∀ b, Φ0 b → Φ b
  phi' : ∀ b, Φ b → Φ0 b ∨ w0.heap.size ≤ b ∨ ∃ g, b ∈ (H0 g).foot
  foot : ∀ g b, b ∈ (H g).foot → w0.heap.size ≤ b ∨ ∃ h, b ∈ (H0 h).foot
  par : ∀ g, H0 (.par g) = .none → H (.par g) = .none

theorem Fr.refl (w : World) (Φ : Nat → Prop) (H : Tag → TI) : Fr w Φ H w Φ H :=
  ⟨Nat.le_refl _, rfl, rfl, rfl, fun _ _ _ => rfl, fun _ h => h, fun _ h => .inl h, fun g _ h => .inr ⟨g, h⟩, fun _ h => h⟩

structure Entry where
  w : World
  Φ : Nat → Prop
  H : Tag → TI
  vs : Array Value

def cellv (S : Sys) (e : Entry) (a : Act) (t : Nat) : Value := if t < S.n then a.tmps.getD t undef else e.vs.getD (t - S.n) undef

structure Inv (S : Sys) (e : Entry) (Φ : Nat → Prop) (H : Tag → TI) (σ : Env) (a : Act) (w : World) : Prop where
  hi : HInv S.C w Φ H
  env : ∀ t, RA S.C w Φ H (cellv S e a t) (σ.get t)
  G : S.C.G w
  n : a.tmps.size = S.n
  defers : a.defers = []
  fr : Fr e.w e.Φ e.H w Φ H

theorem Env.get_up (φ : LV → LV) (σ : Env) (t : Nat) : (σ.up φ).get t = (σ.get t).up φ := by
  induction σ with
  | nil => rfl
  | cons p r ih =>
    obtain ⟨k, v⟩ := p
    simp only [Env.up, Env.get]
    split
    · rfl
    · exact ih
theorem Env.get_prune (σ : Env) (l : List Nat) (t : Nat) : (σ.prune l).get t = if t ∈ l then σ.get t else .one .top := by
  induction l with
  | nil => rfl
  | cons k r ih =>
    simp only [Env.prune, Env.get, List.mem_cons]
    by_cases h : k = t
    · subst h; simp
    · have h' : ¬ t = k := fun e => h e.symm
      simp only [h, h', if_false, false_or]; exact ih

section
variable {S : Sys} {e : Entry} {Φ : Nat → Prop} {H : Tag → TI} {σ : Env} {a : Act} {w : World}

theorem Inv.prune (h : Inv S e Φ H σ a w) (l : List Nat) : Inv S e Φ H (σ.prune l) a w :=
  { h with env := fun t => by rw [Env.get_prune]; split; exact h.env t; exact .any _ }

theorem RA.const (v : Value) : RA S.C w Φ H v (constA v) := by
  have one : ∀ v, v.oneCell' = true → RL S.C w Φ H v (constL v) := by
    intro v hv
    unfold constL
    split
    · exact .d _ _ (.int _ _)
    · exact .d _ _ (.bool _)
    · exact .d _ _ (.str _)
    · exact .d _ _ .nil
    · exact .d _ _ .err0
    · exact .top _ hv
  unfold constA
  split
  · rename_i cs
    split
    · rename_i hall
      refine .agg _ cs (by simp) (fun i v l h1 h2 => ?_)
      rw [List.getElem?_map, Option.map_eq_some_iff] at h2
      obtain ⟨v', h2, rfl⟩ := h2
      have : v' = v := by simpa [h1] using h2.symm
      subst this
      refine one v' ?_
      have := Array.all_eq_true'.1 hall v' (Array.mem_of_getElem? h1)
      simpa using this
    · exact .any _
  · rename_i hne
    cases v with
    | agg cs => exact absurd rfl (hne cs)
    | tuple vs => exact .any _
    | _ => exact .one _ _ (one _ rfl)

theorem Inv.eval (h : Inv S e Φ H σ a w) (x : Operand) : RA S.C w Φ H (a.eval x) (σ.eval S.n x) := by
  cases x with
  | tmp t =>
    simp only [Act.eval, Env.eval]
    split
    · rename_i ht
      have := h.env t
      simpa [cellv, ht] using this
    · exact .any _
  | const v => exact RA.const v
  | global g => exact .any _
  | func f => exact .one _ _ (.clo f [] #[] rfl (fun i v l h1 => by simp at h1))

theorem Inv.put (h : Inv S e Φ H σ a w) {d : Nat} (hd : d < S.n) {v : Value} {x : AV} (hv : RA S.C w Φ H v x) : Inv S e Φ H ((d, x) :: σ) (a.put (some d) v) w :=
  { h with
    env := fun t => by
      have ht := h.env t
      unfold cellv at ht ⊢
      simp only [Env.get, Act.put]
      by_cases hdt : d = t
      · subst hdt
        have : d < a.tmps.size := by rw [h.n]; exact hd
        simp only [hd, if_true, Array.getD_eq_getD_getElem?, Array.getElem?_setIfInBounds_self_of_lt this, Option.getD_some]; exact hv
      · simp only [hdt, if_false]
        by_cases hn : t < S.n
        · simp only [hn, if_true, Array.getD_eq_getD_getElem?, Array.getElem?_setIfInBounds_ne hdt] at ht ⊢; exact ht
        · simp only [hn, if_false] at ht ⊢; exact ht
    n := by simp [Act.put, h.n]
    defers := by simpa [Act.put] using h.defers }

theorem Inv.wPut (h : Inv S e Φ H σ a w) {dst : Option Tmp} {x : AV} {k : Env → Prop} (hw : wPut S dst x σ k) {v : Value} (hv : RA S.C w Φ H v x) :
    ∃ σ', k σ' ∧ Inv S e Φ H σ' (a.put dst v) w := by
  cases dst with
  | none => exact ⟨σ, hw, by simpa [Act.put] using h⟩
  | some d => exact ⟨_, hw.2, h.put hw.1 hv⟩

/-- The world has only grown. -/
theorem Inv.keep {w' : World} {Φ' : Nat → Prop} (h : Inv S e Φ H σ a w) (hΦ : ∀ b, Φ b → Φ' b) (hΦ' : ∀ b, Φ' b → Φ b ∨ (w.heap.size ≤ b ∧ b < w'.heap.size)) (hw : ∀ b, b < w.heap.size → w'.heap[b]? = w.heap[b]?)
    (hs : w.heap.size ≤ w'.heap.size) (ho : w'.os = w.os) (ht : w'.tape = w.tape) (hu : w'.output = w.output) : Inv S e Φ' H σ a w' where
  hi := h.hi.keep hΦ hΦ' hw hs
  env := fun t => (h.env t).keep hΦ (fun b hb => hw b (h.hi.phi b hb))
  G := S.C.stableG w w' (fun b hb => hw b (Nat.lt_of_lt_of_le hb (S.C.sizeG w h.G))) ho ht hu h.G
  n := h.n
  defers := h.defers
  fr := ⟨Nat.le_trans h.fr.size hs, ho.trans h.fr.os, ht.trans h.fr.tape, hu.trans h.fr.output, fun b hb hg => (hw b (Nat.lt_of_lt_of_le hb h.fr.size)).trans (h.fr.block b hb hg), fun b hb => hΦ b (h.fr.phi b hb),
    fun b hb => by
      rcases hΦ' b hb with hb | ⟨hb, _⟩
      · exact h.fr.phi' b hb
      · exact .inr (.inl (Nat.le_trans h.fr.size hb)),
    h.fr.foot, h.fr.par⟩
end

/-- Behind an operation that gives a value: the next one stands on what is known. -/
def Goes (S : Sys) (e : Entry) (k : Env → Prop) (dst : Option Tmp) (a : Act) (v : Value) (w : World) : Prop :=
  ∃ Φ H σ, k σ ∧ Inv S e Φ H σ (a.put dst v) w

theorem upon_goes {S : Sys} {e : Entry} {k : Env → Prop} {o : Oper} {a : Act} {w w' : World} {v : Value} {next : Act → World → Prop} {Q : Exit → Act → World → Prop}
    (hr : (execOp a.eval o).run S.C.P w = .ok (.value v) w') (hg : Goes S e k o.dst a v w') (hk : ∀ Φ H σ a w, k σ → Inv S e Φ H σ a w → next a w) : o.wp S.C.P a w next Q := by
  unfold Oper.wp
  rw [hr, Oper.upon_value]
  obtain ⟨Φ, H, σ, hσ, hi⟩ := hg
  exact hk Φ H σ _ _ hσ hi

theorem run_v {P : Program} {w w' : World} {s : Sem Value} {v : Value} (h : s.run P w = .ok v w') : ((do pure (Next.value (← s))) : Sem Next).run P w = .ok (.value v) w' := by
  simp [h]

theorem run_underlying' {P : Program} {t : TypeId} {d : TypeDesc} (h : P.underlying t = some d) (w : World) : (underlying t).run P w = .ok d w := run_underlying h w
theorem run_sizeOf' {P : Program} {t : TypeId} (w : World) (h : P.cellsOf t ≠ 0) : (sizeOf t).run P w = .ok (P.cellsOf t) w := by
  unfold Program.cellsOf at *
  cases hi : P.info? t with
  | none => simp [hi] at h
  | some i => simp [sizeOf, typeInfo, hi]
theorem cellsOf_info {P : Program} {t : TypeId} (h : P.cellsOf t ≠ 0) : ∃ i, P.info? t = some i ∧ i.size = P.cellsOf t := by
  unfold Program.cellsOf at *
  cases hi : P.info? t with
  | none => simp [hi] at h
  | some i => exact ⟨i, rfl, by simp⟩

theorem isAgg_run {P : Program} {t : TypeId} {b : Bool} (h : tAgg P t = some b) (w : World) : (isAgg t).run P w = .ok b w := by
  unfold tAgg at h
  cases hu : P.underlying t with
  | none => simp [hu] at h
  | some d =>
    unfold isAgg
    simp only [Sem.run_bind, run_underlying hu, Result.andThen_ok]
    rw [hu] at h
    cases d <;> simp at h <;> subst h <;> rfl

theorem add_spot (b o j : Nat) : (⟨b, o, none⟩ : Addr).add j = ⟨b, o + j, none⟩ := by
  unfold Addr.add
  split
  · rename_i h; subst h; rfl
  · rfl

/-- A variable of type t is loaded: its cells are known. -/
theorem run_loadVar' {P : Program} {w : World} {t : TypeId} {b o : Nat} {cs : List Value} {ag : Bool} (hu : tAgg P t = some ag) (hn : cs.length = P.cellsOf t) (h0 : P.cellsOf t ≠ 0) (hc : ∀ j v, cs[j]? = some v → w.cell? ⟨b, o + j, none⟩ = some v) :
    (loadVar t ⟨b, o, none⟩).run P w = .ok (if ag then .agg cs.toArray else cs.getD 0 undef) w := by
  unfold loadVar
  simp only [Sem.run_bind, isAgg_run hu, Result.andThen_ok]
  have hadd : ∀ j v, cs[j]? = some v → w.cell? ((⟨b, o, none⟩ : Addr).add j) = some v := fun j v hj => by rw [add_spot]; exact hc j v hj
  cases ag
  · have hlt : 0 < cs.length := by omega
    have hc0 := hc 0 cs[0] (by simp [hlt])
    simp only [Nat.add_zero] at hc0
    simp [run_load, hc0, hlt]
  · simp only [if_true, Sem.run_bind, run_sizeOf' w h0, Result.andThen_ok, ← hn, run_loadCells_list w ⟨b, o, none⟩ cs hadd, Sem.run_pure]
end Go.VS
namespace Go.VS
open Go Go.RowKit
set_option linter.unusedVariables false
set_option linter.unusedSimpArgs false

theorem part_cells {S : Sys} {w : World} {Φ : Nat → Prop} {H : Tag → TI} {c : List LV} {b o off n : Nat} (hl : off + n ≤ c.length)
    (hc : ∀ (j : Nat) l, c[j]? = some l → ∃ v, w.cell? ⟨b, o + j, none⟩ = some v ∧ RL S.C w Φ H v l) :
    ∃ cs : List Value, cs.length = n ∧ (∀ (j : Nat) v, cs[j]? = some v → w.cell? ⟨b, o + off + j, none⟩ = some v) ∧ (∀ (j : Nat) v l, cs[j]? = some v → c[off + j]? = some l → RL S.C w Φ H v l) := by
  refine ⟨(List.range n).map fun j => (w.cell? ⟨b, o + off + j, none⟩).getD undef, by simp, ?_, ?_⟩
  · intro j v hj
    rw [List.getElem?_map, Option.map_eq_some_iff] at hj
    obtain ⟨j', hj', rfl⟩ := hj
    obtain ⟨hlt, rfl⟩ := List.getElem?_eq_some_iff.1 hj'
    simp only [List.length_range] at hlt
    simp only [List.getElem_range]
    obtain ⟨v, hv, _⟩ := hc (off + j) (c[off + j]'(by omega)) (by simp [show off + j < c.length by omega])
    rw [show o + off + j = o + (off + j) by omega, hv]; rfl
  · intro j v l hj hl'
    rw [List.getElem?_map, Option.map_eq_some_iff] at hj
    obtain ⟨j', hj', rfl⟩ := hj
    obtain ⟨hlt, rfl⟩ := List.getElem?_eq_some_iff.1 hj'
    simp only [List.length_range] at hlt
    simp only [List.getElem_range]
    obtain ⟨v, hv, hr⟩ := hc (off + j) l hl'
    rw [show o + off + j = o + (off + j) by omega, hv]; exact hr

theorem load_part {S : Sys} {w : World} {Φ : Nat → Prop} {H : Tag → TI} {t : TypeId} {c : List LV} {b o off : Nat} {k : AV → Prop} (h : wPart S t c off k)
    (hc : ∀ (j : Nat) l, c[j]? = some l → ∃ v, w.cell? ⟨b, o + j, none⟩ = some v ∧ RL S.C w Φ H v l) :
    ∃ v av, (loadVar t ⟨b, o + off, none⟩).run S.C.P w = .ok v w ∧ RA S.C w Φ H v av ∧ k av := by
  obtain ⟨h0, hl, hk⟩ := h
  obtain ⟨cs, hcl, hcc, hcr⟩ := part_cells hl hc
  cases hag : tAgg S.C.P t with
  | none => simp [hag] at hk
  | some ag =>
    have hrun := run_loadVar' hag hcl h0 hcc
    cases ag
    · simp only [hag] at hk
      have hlt : 0 < cs.length := by omega
      have hoff : off < c.length := by omega
      simp only [List.getElem?_eq_getElem hoff] at hk
      refine ⟨_, _, hrun, ?_, hk⟩
      simp only [Bool.false_eq_true, if_false, List.getD_eq_getElem?_getD, List.getElem?_eq_getElem hlt, Option.getD_some]
      exact .one _ _ (hcr 0 _ _ (by simp [hlt]) (by simp [hoff]))
    · simp only [hag] at hk
      refine ⟨_, _, hrun, ?_, hk⟩
      simp only [if_true]
      refine .agg _ _ (by simp [hcl]; omega) (fun i v l h1 h2 => ?_)
      simp only [List.getElem?_toArray] at h1
      rw [List.getElem?_take] at h2
      split at h2
      · rw [List.getElem?_drop] at h2
        exact hcr i v l h1 h2
      · cases h2

theorem box_cells {S : Sys} {w : World} {Φ : Nat → Prop} {H : Tag → TI} (hi : HInv S.C w Φ H) {g : Tag} {b : Nat} {c : List LV} (hg : H g = .box b c) :
    ∀ (j : Nat) l, c[j]? = some l → ∃ v, w.cell? ⟨b, j, none⟩ = some v ∧ RL S.C w Φ H v l := by
  intro j l hj
  have hok := hi.ok g
  rw [hg] at hok
  cases hok with
  | box _ _ cur ty hh hn hr =>
    have hlt : j < cur.size := by rw [hn]; exact (List.getElem?_eq_some_iff.1 hj).1
    exact ⟨cur[j], by rw [cell_of_row w b j cur ty (0, 0) hh]; simp [hlt], hr j l _ hj (by simp [hlt])⟩

theorem arr_cells {S : Sys} {w : World} {Φ : Nat → Prop} {H : Tag → TI} (hi : HInv S.C w Φ H) {g : Tag} {b n cap : Nat} {t : TypeId} {xs : List (List DV)} (hg : H g = .arr (.slice (some ⟨b, 0, none⟩) n cap) t xs) {i : Nat} (hlt : i < xs.length) :
    (xs.getD i []).length = S.C.P.cellsOf t ∧ ∀ (j : Nat) l, ((xs.getD i []).map LV.d)[j]? = some l → ∃ v, w.cell? ⟨b, i * S.C.P.cellsOf t + j, none⟩ = some v ∧ RL S.C w Φ H v l := by
  have hok := hi.ok g
  rw [hg] at hok
  cases hok with
  | arr _ _ _ vals ho he hr =>
    have hget : xs.getD i [] = xs[i] := by simp [hlt]
    have hlen : (xs.getD i []).length = S.C.P.cellsOf t := by rw [hget]; exact he _ (List.getElem_mem hlt)
    refine ⟨hlen, fun j l hj => ?_⟩
    rw [List.getElem?_map, Option.map_eq_some_iff] at hj
    obtain ⟨x, hx, rfl⟩ := hj
    have hjlt : j < S.C.P.cellsOf t := by rw [← hlen]; exact (List.getElem?_eq_some_iff.1 hx).1
    have hidx : i * S.C.P.cellsOf t + j < vals.length := by
      rw [ho.1]
      calc i * S.C.P.cellsOf t + j < i * S.C.P.cellsOf t + S.C.P.cellsOf t := by omega
        _ = (i + 1) * S.C.P.cellsOf t := by rw [Nat.add_mul, Nat.one_mul]
        _ ≤ xs.length * S.C.P.cellsOf t := Nat.mul_le_mul_right _ hlt
    have hv : vals[i * S.C.P.cellsOf t + j]? = some vals[i * S.C.P.cellsOf t + j] := by simp [hidx]
    refine ⟨vals[i * S.C.P.cellsOf t + j], ?_, .d _ _ (hr i xs[i] j x _ (by simp [hlt]) (by rw [← hget]; exact hx) hv)⟩
    have := ho.cells (g := b) rfl _ _ hv
    rw [add_spot] at this
    simpa using this

theorem dptr_cells {S : Sys} {w : World} {Φ : Nat → Prop} {H : Tag → TI} {c : List DV} {b o : Nat} {cv : Nat → Value} (hv : ∀ j, j < c.length → w.cell? ⟨b, o + j, none⟩ = some (cv j)) (hr : ∀ (j : Nat) x, c[j]? = some x → RC w Φ (cv j) x) :
    ∀ (j : Nat) l, (c.map LV.d)[j]? = some l → ∃ v, w.cell? ⟨b, o + j, none⟩ = some v ∧ RL S.C w Φ H v l := by
  intro j l hj
  rw [List.getElem?_map, Option.map_eq_some_iff] at hj
  obtain ⟨x, hx, rfl⟩ := hj
  exact ⟨cv j, hv j (List.getElem?_eq_some_iff.1 hx).1, .d _ _ (hr j x hx)⟩

theorem load_sound {S : Sys} {e : Entry} {Φ : Nat → Prop} {H : Tag → TI} {σ : Env} {a : Act} {w : World} {t : TypeId} {v : Value} {av : AV} {k : AV → Prop} (hi : HInv S.C w Φ H) (hv : RA S.C w Φ H v av) (h : wLoad S t av k) :
    ∃ u au, (Instr.loadAt t v).run S.C.P w = .ok u w ∧ RA S.C w Φ H u au ∧ k au := by
  cases hv with
  | one v l hl =>
    cases hl with
    | ptr g off c b hg =>
      have := load_part (o := 0) h (by simpa using box_cells hi hg)
      simpa [Instr.loadAt, Instr.sureAddr] using this
    | dptr c off b o cv hb hcv hr =>
      have := load_part (o := o) (H := H) h (dptr_cells hcv hr)
      simpa [Instr.loadAt, Instr.sureAddr] using this
    | eptr g t' xs i off b n cap hg hlt =>
      have := load_part (o := i * S.C.P.cellsOf t') h (arr_cells hi hg hlt).2
      simpa [Instr.loadAt, Instr.sureAddr] using this
    | _ => exact h.elim
  | any v => exact h.elim
  | agg ls vs hn hh => exact h.elim
  | tup as vs hn hh => exact h.elim

theorem fieldAt_run {P : Program} {s ft : TypeId} {f o : Nat} {b off : Nat} (w : World) (ho : tOff P s f = some (o, ft)) (h0 : P.cellsOf ft ≠ 0) :
    (Instr.fieldAt s (.pointer (some ⟨b, off, none⟩)) f).run P w = .ok (.pointer (some ⟨b, off + o, none⟩)) w := by
  unfold tOff at ho
  cases hu : P.underlying s with
  | none => simp [hu] at ho
  | some d =>
    cases d with
    | struct fs =>
      simp only [hu] at ho
      cases hf : fs[f]? with
      | none => simp [hf] at ho
      | some fd =>
        simp only [hf, Option.map_some, Option.some.injEq, Prod.mk.injEq] at ho
        obtain ⟨rfl, rfl⟩ := ho
        simp [Instr.fieldAt, run_underlying hu, hf, Instr.sureAddr, fieldPlace, run_sizeOf' w h0, h0, add_spot]
    | _ => simp [hu] at ho

theorem field_sound {S : Sys} {Φ : Nat → Prop} {H : Tag → TI} {w : World} {s : TypeId} {f : Nat} {v : Value} {av : AV} {k : AV → Prop} (hi : HInv S.C w Φ H) (hv : RA S.C w Φ H v av) (h : wField S s av f k) :
    ∃ u au, (Instr.fieldAt s v f).run S.C.P w = .ok u w ∧ RA S.C w Φ H u au ∧ k au := by
  unfold wField at h
  cases ho : tOff S.C.P s f with
  | none => simp [ho] at h
  | some p =>
    obtain ⟨o, ft⟩ := p
    simp only [ho] at h
    obtain ⟨h0, h⟩ := h
    cases hv with
    | one v l hl =>
      cases hl with
      | ptr g off c b hg => exact ⟨_, _, fieldAt_run w ho h0, .one _ _ (.ptr g (off + o) c b hg), h⟩
      | dptr c off b o' cv hb hcv hr => exact ⟨_, _, fieldAt_run w ho h0, .one _ _ (by rw [Nat.add_assoc]; exact .dptr c (off + o) b o' cv hb hcv hr), h⟩
      | eptr g t' xs i off b n cap hg hlt => exact ⟨_, _, fieldAt_run w ho h0, .one _ _ (by rw [Nat.add_assoc]; exact .eptr g t' xs i (off + o) b n cap hg hlt), h⟩
      | _ => exact h.elim
    | any v => exact h.elim
    | agg ls vs hn hh => exact h.elim
    | tup as vs hn hh => exact h.elim

theorem indexAt_run {P : Program} {t e : TypeId} (w : World) (he : tElem P t = some e) (h0 : P.cellsOf e ≠ 0) (b o n c : Nat) (kd : IntKind) (i : Int) (h1 : 0 ≤ i) (h2 : i < n) :
    (Instr.indexAt t (.slice (some ⟨b, o, none⟩) n c) (.int kd i)).run P w = .ok (.pointer (some ⟨b, o + i.toNat * P.cellsOf e, none⟩)) w := by
  unfold tElem at he
  cases hu : P.underlying t with
  | none => simp [hu] at he
  | some d =>
    cases d with
    | slice e' =>
      simp only [hu, Option.some.injEq] at he
      subst he
      simp [Instr.indexAt, asIntOf, run_underlying hu, h1, h2, run_sizeOf' w h0, add_spot]
    | _ => simp [hu] at he

theorem own_slice {w : World} {base : Nat} {t : TypeId} {size : Nat} {v : Value} {n : Nat} {vals : List Value} (ho : w.ownsRow base t size v n vals) (hn : 0 < n) : ∃ b cap, v = .slice (some ⟨b, 0, none⟩) n cap ∧ n ≤ cap ∧ cap ≤ maxLen ∧ base ≤ b ∧ b < w.heap.size := by
  rcases ho.2 with ⟨_, h⟩ | ⟨b, cap, cur, rfl, hb, hh, h1, h2, _⟩
  · omega
  · exact ⟨b, cap, rfl, h1, h2, hb, (Array.getElem?_eq_some_iff.1 hh).1⟩

theorem indexAddr_sound {S : Sys} {Φ : Nat → Prop} {H : Tag → TI} {w : World} {t : TypeId} {v i : Value} {av ai : AV} {k : AV → Prop} (hi : HInv S.C w Φ H) (hv : RA S.C w Φ H v av) (hx : RA S.C w Φ H i ai) (h : wIndexAddr S t av ai k) :
    ∃ u au, (Instr.indexAt t v i).run S.C.P w = .ok u w ∧ RA S.C w Φ H u au ∧ k au := by
  unfold wIndexAddr at h
  cases he : tElem S.C.P t with
  | none => simp [he] at h
  | some e =>
    simp only [he] at h
    cases hx with
    | any => exact h.elim
    | agg => exact h.elim
    | tup => exact h.elim
    | one i l hl =>
      cases hl with
      | d i x hx =>
        cases hx with
        | int kd n =>
          simp only [] at h
          cases hv with
          | any => exact h.elim
          | agg => exact h.elim
          | tup => exact h.elim
          | one v l hl =>
            cases hl with
            | own g t' xs v hg hone =>
              obtain ⟨h1, h2, h3, h4, hk⟩ := h
              have hok := hi.ok g
              rw [hg] at hok
              cases hok with
              | arr _ _ _ vals ho hee hr =>
                obtain ⟨b, cap, rfl, hnc, hcm, _, _⟩ := own_slice ho (by omega)
                refine ⟨_, _, indexAt_run w he h2 b 0 xs.length cap kd n h3 h4, .one _ _ ?_, hk⟩
                have := RL.eptr (C := S.C) (w := w) (Φ := Φ) (H := H) g t' xs n.toNat 0 b xs.length cap hg (by omega)
                rw [h1]
                simpa using this
            | own0 g t' hg => obtain ⟨h1, h2, h3, h4, hk⟩ := h; simp at h4; omega
            | d v x hx =>
              cases hx with
              | list e' xs b o c cv hc hm hb hee hv hr =>
                obtain ⟨h1, h2, h3, h4, hk⟩ := h
                subst h1
                have hlt : n.toNat < xs.length := by omega
                have hget : xs.getD n.toNat [] = xs[n.toNat] := by simp [hlt]
                have hrow : (xs.getD n.toNat []).length = S.C.P.cellsOf e := by rw [hget]; exact hee _ (List.getElem_mem hlt)
                refine ⟨_, _, indexAt_run w he h2 b o xs.length c kd n h3 h4, .one _ _ ?_, hk⟩
                have := RL.dptr (C := S.C) (w := w) (Φ := Φ) (H := H) (xs.getD n.toNat []) 0 b (o + n.toNat * S.C.P.cellsOf e) (fun j => cv (n.toNat * S.C.P.cellsOf e + j)) (hb (by intro he; simp [he] at hlt))
                  (fun j hj => by
                    rw [Nat.add_assoc]
                    refine hv _ ?_
                    rw [hrow] at hj
                    calc n.toNat * S.C.P.cellsOf e + j < n.toNat * S.C.P.cellsOf e + S.C.P.cellsOf e := by omega
                      _ = (n.toNat + 1) * S.C.P.cellsOf e := by rw [Nat.add_mul, Nat.one_mul]
                      _ ≤ xs.length * S.C.P.cellsOf e := Nat.mul_le_mul_right _ hlt)
                  (fun j x hj => hr n.toNat xs[n.toNat] j x (by simp [hlt]) (by rw [← hget]; exact hj))
                simpa using this
              | nil' e' =>
                obtain ⟨h1, h2, h3, h4, hk⟩ := h
                simp at h4; omega
              | _ => exact h.elim
            | _ => exact h.elim
        | _ => exact h.elim
      | _ => exact h.elim
end Go.VS
namespace Go.VS
open Go Go.RowKit
set_option linter.unusedVariables false
set_option linter.unusedSimpArgs false

section
variable {S : Sys} {Φ : Nat → Prop} {H : Tag → TI} {w : World}

theorem wInt_sound {op : BinOp} {kd : IntKind} {m n : Int} {k : DV → Prop} (h : wInt op kd m n k) (h1 : op ≠ .shl) (h2 : op ≠ .shr) (t : TypeId) :
    ∃ u x, (binOp op t (.int kd m) (.int kd n)).run S.C.P w = .ok u w ∧ RC w Φ u x ∧ k x := by
  cases op <;> simp only [wInt] at h <;> first
    | exact absurd rfl h1
    | exact absurd rfl h2
    | (refine ⟨_, _, ?_, .int _ _, h⟩; simp [binOp, Op.intArith, Op.intBits]; done)
    | (refine ⟨_, _, ?_, .bool _, h⟩; simp [binOp, Op.intCmp]; done)
    | (obtain ⟨h0, h⟩ := h; refine ⟨_, _, ?_, .int _ _, h⟩; simp [binOp, Op.intDiv, h0]; done)

theorem eqGuard_run {op : BinOp} {t : TypeId} {x y : Operand} {a b : Value} (h : (∀ cs, a ≠ .agg cs) ∧ (a = .nilIface → b = .nilIface → isConst y = true)) :
    (eqGuard op t x y a b).run S.C.P w = .ok () w := by
  obtain ⟨h1, h2⟩ := h
  have key : ∀ (op : BinOp), op = .eql ∨ op = .neq → (eqGuard op t x y a b).run S.C.P w = .ok () w := by
    intro op hop
    cases a with
    | nilIface =>
      cases b with
      | nilIface =>
        have hy := h2 rfl rfl
        cases y with
        | const v => rcases hop with rfl | rfl <;> (unfold eqGuard; simp)
        | _ => simp [isConst] at hy
      | _ => rcases hop with rfl | rfl <;> rfl
    | agg cs => exact absurd rfl (h1 cs)
    | _ => rcases hop with rfl | rfl <;> (cases b <;> rfl)
  cases op <;> first
    | exact key _ (.inl rfl)
    | exact key _ (.inr rfl)
    | rfl

theorem equal_step (P : Program) (t : TypeId) (a b : Value) : Op.equal t a b = Op.equalIn (9999 + 1) t a b := rfl
theorem equal_bool {P : Program} {t : TypeId} (hu : P.underlying t = some .bool) (a b : Bool) (w : World) : (Op.equal t (.bool a) (.bool b)).run P w = .ok (a == b) w := by
  rw [equal_step P, Op.equalIn]
  simp only [Sem.run_bind, run_underlying hu, Result.andThen_ok, Sem.run_pure]
theorem equal_slice {P : Program} {t e : TypeId} (hu : P.underlying t = some (.slice e)) (a : Option Addr) (n c : Nat) (w : World) : (Op.equal t (.slice a n c) (.slice none 0 0)).run P w = .ok a.isNone w := by
  rw [equal_step P, Op.equalIn]
  cases a <;> simp only [Sem.run_bind, run_underlying hu, Result.andThen_ok, Sem.run_pure] <;> rfl
theorem equal_nil {P : Program} {t : TypeId} {ms : Array (String × TypeId)} (hu : P.underlying t = some (.interface ms)) (w : World) : (Op.equal t .nilIface .nilIface).run P w = .ok true w := by
  rw [equal_step P, Op.equalIn]
  simp only [Sem.run_bind, run_underlying hu, Result.andThen_ok, Sem.run_pure]
theorem equal_some {P : Program} {t : TypeId} {ms : Array (String × TypeId)} (hu : P.underlying t = some (.interface ms)) (ty : TypeId) (v : Value) (w : World) : (Op.equal t (.iface ty v) .nilIface).run P w = .ok false w := by
  rw [equal_step P, Op.equalIn]
  simp only [Sem.run_bind, run_underlying hu, Result.andThen_ok, Sem.run_pure]

theorem isNil_sound {t : TypeId} {v : Value} {l : LV} {z : Bool} (hi : HInv S.C w Φ H) (hv : RL S.C w Φ H v l) (hz : l.isNil = some z) (ht : tSlice S.C.P t = true) :
    (Op.equal t v (.slice none 0 0)).run S.C.P w = .ok z w := by
  obtain ⟨e, he⟩ : ∃ e, S.C.P.underlying t = some (.slice e) := by
    unfold tSlice at ht
    cases hu : S.C.P.underlying t with
    | none => simp [hu] at ht
    | some d => cases d <;> simp [hu] at ht; exact ⟨_, rfl⟩
  have key := fun a n c => equal_slice he a n c w
  cases hv with
  | d v x hx =>
    cases hx with
    | nil => simp only [LV.isNil, Option.some.injEq] at hz; subst hz; exact key none 0 0
    | nil' e => simp [LV.isNil] at hz
    | list e xs b o c cv =>
      cases xs with
      | nil => simp [LV.isNil] at hz
      | cons r xs => simp only [LV.isNil, Option.some.injEq] at hz; subst hz; exact key _ _ _
    | _ => simp [LV.isNil] at hz
  | own g t' xs v hg h1 =>
    cases xs with
    | nil => simp [LV.isNil] at hz
    | cons r xs =>
      simp only [LV.isNil, Option.some.injEq] at hz
      subst hz
      have hok := hi.ok g
      rw [hg] at hok
      cases hok with
      | arr _ _ _ vals ho hee hr =>
        obtain ⟨b, cap, rfl, _⟩ := own_slice ho (by simp)
        exact key _ _ _
  | _ => simp [LV.isNil] at hz

theorem RL.notAgg {v : Value} {l : LV} (h : RL S.C w Φ H v l) : ∀ cs, v ≠ .agg cs := by
  intro cs he
  subst he
  have := h.one
  simp [Value.oneCell'] at this

theorem bin_sound {op : BinOp} {t : TypeId} {x y : Operand} {va vb : Value} {a b : AV} {k : DV → Prop} (hi : HInv S.C w Φ H) (ha : RA S.C w Φ H va a) (hb : RA S.C w Φ H vb b) (h : wBin S op t x y a b k) :
    ∃ u z, ((do eqGuard op t x y va vb; binOp op t va vb) : Sem Value).run S.C.P w = .ok u w ∧ RC w Φ u z ∧ k z := by
  cases ha with
  | any v =>
    cases hb with
    | one v2 l2 h2 => cases h2 with
      | d v2 x2 h2 => cases h2 <;> simp [wBin, wNil, LV.isNil] at h
      | _ => simp [wBin] at h
    | _ => simp [wBin] at h
  | agg ls vs hn hh => simp [wBin] at h
  | tup as vs hn hh => simp [wBin] at h
  | one va la ha =>
    cases hb with
    | any v => cases la <;> simp [wBin] at h <;> (rename_i x; cases x <;> simp [wBin] at h)
    | agg ls vs hn hh => cases la <;> simp [wBin] at h <;> (rename_i x; cases x <;> simp [wBin] at h)
    | tup as vs hn hh => cases la <;> simp [wBin] at h <;> (rename_i x; cases x <;> simp [wBin] at h)
    | one vb lb hb =>
      cases hb with
      | d vb xb hb =>
        cases hb with
        | int kb n =>
          cases ha with
          | d va xa ha =>
            cases ha with
            | int ka m =>
              have hg := eqGuard_run (S := S) (w := w) (op := op) (t := t) (x := x) (y := y) (a := .int ka m) (b := .int kb n) ⟨by simp, by simp⟩
              by_cases h1 : op = .shl
              · subst h1
                simp only [wBin] at h
                obtain ⟨h0, h⟩ := h
                exact ⟨_, _, by simp [hg, binOp, Op.shift, show ¬ n < 0 by omega], .int _ _, h⟩
              · by_cases h2 : op = .shr
                · subst h2
                  simp only [wBin] at h
                  obtain ⟨h0, h⟩ := h
                  exact ⟨_, _, by simp [hg, binOp, Op.shift, show ¬ n < 0 by omega], .int _ _, h⟩
                · have h' : ka = kb ∧ wInt op ka m n k := by
                    cases op <;> first | exact absurd rfl h1 | exact absurd rfl h2 | simpa [wBin] using h
                  obtain ⟨rfl, h'⟩ := h'
                  obtain ⟨u, z, hr, hz, hk⟩ := wInt_sound (S := S) (Φ := Φ) (w := w) h' h1 h2 t
                  exact ⟨u, z, by simp [hg, hr], hz, hk⟩
            | _ => simp [wBin] at h
          | _ => simp [wBin] at h
        | str n =>
          cases ha with
          | d va xa ha =>
            cases ha with
            | str m =>
              have hg := eqGuard_run (S := S) (w := w) (op := op) (t := t) (x := x) (y := y) (a := .string m) (b := .string n) ⟨by simp, by simp⟩
              cases op <;> simp only [wBin] at h <;> first
                | exact h.elim
                | (obtain ⟨h0, h⟩ := h
                   refine ⟨_, _, ?_, .str _, h⟩
                   have h0' : ¬ (((m.size + n.size : Nat) : Int) > IntKind.i64.max) := by
                     have : IntKind.i64.max = 9223372036854775807 := by decide
                     rw [this]; omega
                   simp only [Sem.run_bind, hg, Result.andThen_ok, binOp, Op.stringOp, if_neg h0', Sem.run_pure]
                   done)
                | exact ⟨_, _, by simp [hg, binOp, Op.stringOp], .bool _, h⟩
            | _ => simp [wBin] at h
          | _ => simp [wBin] at h
        | bool n =>
          cases ha with
          | d va xa ha =>
            cases ha with
            | bool m =>
              have hg := eqGuard_run (S := S) (w := w) (op := op) (t := t) (x := x) (y := y) (a := .bool m) (b := .bool n) ⟨by simp, by simp⟩
              simp only [wBin] at h
              obtain ⟨ht, h⟩ := h
              have hu : S.C.P.underlying t = some .bool := by
                unfold tBool at ht
                cases hu : S.C.P.underlying t with
                | none => simp [hu] at ht
                | some d => cases d <;> simp [hu] at ht; rfl
              cases op <;> simp only [] at h <;> first
                | exact h.elim
                | exact ⟨_, _, by simp only [Sem.run_bind, hg, Result.andThen_ok, binOp, equal_bool hu, Sem.run_pure], .bool _, h⟩
            | _ => simp [wBin] at h
          | _ => simp [wBin] at h
        | err0 =>
          cases ha with
          | d va xa ha =>
            cases ha with
            | err0 =>
              simp only [wBin] at h
              obtain ⟨ht, hc, h⟩ := h
              obtain ⟨ms, hu⟩ : ∃ ms, S.C.P.underlying t = some (.interface ms) := by
                unfold tIface at ht
                cases hu : S.C.P.underlying t with
                | none => simp [hu] at ht
                | some d => cases d <;> simp [hu] at ht; exact ⟨_, rfl⟩
              have hg := eqGuard_run (S := S) (w := w) (op := op) (t := t) (x := x) (y := y) (a := .nilIface) (b := .nilIface) ⟨by simp, fun _ _ => hc⟩
              cases op <;> simp only [] at h <;> first
                | exact h.elim
                | exact ⟨_, _, by simp only [Sem.run_bind, hg, Result.andThen_ok, binOp, equal_nil hu, Sem.run_pure, Bool.not_true, Bool.not_false], .bool _, h⟩
            | err1 ty v =>
              simp only [wBin] at h
              obtain ⟨ht, hc, h⟩ := h
              obtain ⟨ms, hu⟩ : ∃ ms, S.C.P.underlying t = some (.interface ms) := by
                unfold tIface at ht
                cases hu : S.C.P.underlying t with
                | none => simp [hu] at ht
                | some d => cases d <;> simp [hu] at ht; exact ⟨_, rfl⟩
              have hg := eqGuard_run (S := S) (w := w) (op := op) (t := t) (x := x) (y := y) (a := .iface ty v) (b := .nilIface) ⟨by simp, by simp⟩
              cases op <;> simp only [] at h <;> first
                | exact h.elim
                | exact ⟨_, _, by simp only [Sem.run_bind, hg, Result.andThen_ok, binOp, equal_some hu, Sem.run_pure, Bool.not_true, Bool.not_false], .bool _, h⟩
            | _ => simp [wBin] at h
          | _ => simp [wBin] at h
        | nil =>
          have h' : wNil S op t y la k := by
            cases la with
            | d x => cases x <;> simpa [wBin] using h
            | _ => simpa [wBin] using h
          unfold wNil at h'
          obtain ⟨ht, hc, h'⟩ := h'
          have hg := eqGuard_run (S := S) (w := w) (op := op) (t := t) (x := x) (y := y) (a := va) (b := .slice none 0 0) ⟨ha.notAgg, by simp⟩
          cases hz : la.isNil with
          | none => simp [hz] at h'
          | some z =>
            have hr := isNil_sound hi ha hz ht
            have hsl : ∃ A n c, va = .slice A n c := by
              cases ha with
              | d v x hx => cases hx <;> first | exact ⟨_, _, _, rfl⟩ | simp [LV.isNil] at hz
              | own g t' xs v hgg h1 =>
                have hok := hi.ok g
                rw [hgg] at hok
                cases hok with
                | arr _ _ _ vals ho hee hr =>
                  rcases ho.2 with ⟨rfl, _⟩ | ⟨b, cap, cur, rfl, _⟩ <;> exact ⟨_, _, _, rfl⟩
              | _ => simp [LV.isNil] at hz
            obtain ⟨A, n, c, rfl⟩ := hsl
            cases op <;> simp only [hz] at h' <;> first
              | exact h'.elim
              | exact ⟨_, _, by simp only [Sem.run_bind, hg, Result.andThen_ok, binOp, hr, Sem.run_pure], .bool _, h'⟩
        | _ => cases la <;> simp [wBin] at h <;> (rename_i x; cases x <;> simp [wBin] at h)
      | _ => cases la <;> simp [wBin] at h <;> (rename_i x; cases x <;> simp [wBin] at h)
end
end Go.VS
namespace Go.VS
open Go Go.RowKit
set_option linter.unusedVariables false
set_option linter.unusedSimpArgs false

section
variable {C : Ctx} {w w' : World} {Φ Φ' : Nat → Prop} {H H' : Tag → TI}
theorem RL.more {v : Value} {l : LV} (h : RL C w Φ H v l) (hH : ∀ g, H g ≠ .none → H' g = H g) : RL C w Φ H' v l := by
  induction h with
  | d v x h => exact .d v x h
  | top v h1 => exact .top v h1
  | own g t xs v h h1 => exact .own g t xs v (by rw [hH g (by rw [h]; simp)]; exact h) h1
  | own0 g t hg => exact .own0 g t hg
  | ptr g off c b h => exact .ptr g off c b (by rw [hH g (by rw [h]; simp)]; exact h)
  | eptr g t xs i off b n cap h hi => exact .eptr g t xs i off b n cap (by rw [hH g (by rw [h]; simp)]; exact h) hi
  | dptr c off b o cv hbb hv hr => exact .dptr c off b o cv hbb hv hr
  | clo f caps vs hn h ih => exact .clo f caps vs hn ih
  | obj g k x F v h h1 => exact .obj g k x F v (by rw [hH g (by rw [h]; simp)]; exact h) h1
theorem RA.more {v : Value} {a : AV} (h : RA C w Φ H v a) (hH : ∀ g, H g ≠ .none → H' g = H g) : RA C w Φ H' v a := by
  induction h with
  | one v l h => exact .one v l (h.more hH)
  | any v => exact .any v
  | agg ls vs hn h => exact .agg ls vs hn (fun i v l h1 h2 => (h i v l h1 h2).more hH)
  | tup as vs hn h ih => exact .tup as vs hn ih
theorem HOk.more {i : TI} (h : HOk C w Φ H i) (hH : ∀ g, H g ≠ .none → H' g = H g) : HOk C w Φ H' i := by
  cases h with
  | none => exact .none
  | arr v t xs vals ho he hr => exact .arr v t xs vals ho he hr
  | box b c cur ty hh hn hr => exact .box b c cur ty hh hn (fun j l v h1 h2 => (hr j l v h1 h2).more hH)
  | ob F k v x h => exact .ob F k v x h
end

def bindT (H : Tag → TI) (g : Tag) (i : TI) (h : Tag) : TI := if h = g then i else H h
theorem bindT_self (H : Tag → TI) (g : Tag) (i : TI) : bindT H g i g = i := by simp [bindT]
theorem bindT_ne (H : Tag → TI) (g : Tag) (i : TI) {h : Tag} (hne : h ≠ g) : bindT H g i h = H h := by simp [bindT, hne]
theorem bindT_old {H : Tag → TI} {g : Tag} (hg : H g = .none) (i : TI) : ∀ h, H h ≠ .none → bindT H g i h = H h := by
  intro h hh
  exact bindT_ne H g i (fun e => hh (by rw [e]; exact hg))

/-- What slot d gives is not named yet. -/
def Fresh (H : Tag → TI) (d : Nat) : Prop := ∀ τ, (∀ τ', τ ≠ .par τ') → H (.loc d τ) = .none
/-- No names have come but those of one slot. -/
def Pres (dst : Option Nat) (H H' : Tag → TI) : Prop := ∀ d τ, dst ≠ some d → H (.loc d τ) = .none → H' (.loc d τ) = .none
theorem Pres.refl (dst : Option Nat) (H : Tag → TI) : Pres dst H H := fun _ _ _ h => h
theorem Pres.bindT (d : Nat) (τ : Tag) (H : Tag → TI) (i : TI) : Pres (some d) H (bindT H (.loc d τ) i) := fun d' τ' hne h => by
  rw [bindT_ne]
  · exact h
  · intro he
    simp only [Tag.loc.injEq] at he
    exact hne (by rw [he.1])

/-- The world has grown by blocks of which one thing, under a new name, is known. -/
theorem Inv.bind {S : Sys} {e : Entry} {Φ : Nat → Prop} {H : Tag → TI} {σ : Env} {a : Act} {w w' : World} (h : Inv S e Φ H σ a w) {g : Tag} {i : TI} (hg : H g = .none) (hnp : ∀ τ, g ≠ .par τ) (hv : g.isVar = false)
    (hw : ∀ b, b < w.heap.size → w'.heap[b]? = w.heap[b]?) (hs : w.heap.size ≤ w'.heap.size) (ho : w'.os = w.os) (ht : w'.tape = w.tape) (hu : w'.output = w.output)
    (hf : ∀ b, b ∈ i.foot → w.heap.size ≤ b ∧ b < w'.heap.size) (hok : HOk S.C w' Φ H i) : Inv S e Φ (bindT H g i) σ a w' := by
  have h' := h.keep (Φ' := Φ) (w' := w') (fun _ hb => hb) (fun _ hb => .inl hb) hw hs ho ht hu
  have old := bindT_old hg i
  exact
  { hi :=
    { disj := fun g1 g2 b h1 h2 => by
        by_cases e1 : g1 = g
        · by_cases e2 : g2 = g
          · rw [e1, e2]
          · rw [e1, bindT_self] at h1
            rw [bindT_ne H g i e2] at h2
            have := (hf b h1).1
            have := (h.hi.lt g2 b h2).2
            omega
        · by_cases e2 : g2 = g
          · rw [e2, bindT_self] at h2
            rw [bindT_ne H g i e1] at h1
            have := (hf b h2).1
            have := (h.hi.lt g1 b h1).2
            omega
          · rw [bindT_ne H g i e1] at h1
            rw [bindT_ne H g i e2] at h2
            exact h.hi.disj g1 g2 b h1 h2
      nophi := fun g1 b h1 hp => by
        by_cases e1 : g1 = g
        · rw [e1, bindT_self] at h1
          have := (hf b h1).1
          have := h.hi.phi b hp
          omega
        · rw [bindT_ne H g i e1] at h1
          exact h.hi.nophi g1 b h1 hp
      lt := fun g1 b h1 => by
        by_cases e1 : g1 = g
        · rw [e1, bindT_self] at h1
          exact ⟨Nat.le_trans (S.C.sizeG w h.G) (hf b h1).1, (hf b h1).2⟩
        · rw [bindT_ne H g i e1] at h1
          exact h'.hi.lt g1 b h1
      phi := h'.hi.phi
      ok := fun g1 => by
        by_cases e1 : g1 = g
        · rw [e1, bindT_self]
          exact hok.more old
        · rw [bindT_ne H g i e1]
          exact (h'.hi.ok g1).more old
      novar := fun g1 hg1 => by
        rw [bindT_ne H g i (fun e1 => by rw [e1, hv] at hg1; cases hg1)]
        exact h.hi.novar g1 hg1 }
    env := fun t => (h'.env t).more old
    G := h'.G
    n := h'.n
    defers := h'.defers
    fr := { h'.fr with
      par := fun g1 hg1 => by rw [bindT_ne H g i (fun e1 => hnp _ e1.symm)]; exact h'.fr.par g1 hg1
      foot := fun g1 b h1 => by
        by_cases e1 : g1 = g
        · rw [e1, bindT_self] at h1
          exact .inl (Nat.le_trans h.fr.size (hf b h1).1)
        · rw [bindT_ne H g i e1] at h1
          exact h.fr.foot g1 b h1 } }

/-- The leaves of a value. -/
theorem leaves_cells {C : Ctx} {w : World} {Φ : Nat → Prop} {H : Tag → TI} {v : Value} {av : AV} {ls : List LV} (hv : RA C w Φ H v av) (hl : av.leaves = some ls) :
    v.cells.size = ls.length ∧ ∀ (j : Nat) l u, ls[j]? = some l → v.cells[j]? = some u → RL C w Φ H u l := by
  cases hv with
  | any v => simp [AV.leaves] at hl
  | tup as vs hn hh => simp [AV.leaves] at hl
  | agg ls' vs hn hh =>
    simp only [AV.leaves, Option.some.injEq] at hl
    subst hl
    exact ⟨hn, fun j l u h1 h2 => hh j u l h2 h1⟩
  | one v l h =>
    have hls : ls = [l] := by cases l <;> simp [AV.leaves] at hl <;> exact hl.symm
    subst hls
    have hc : v.cells = #[v] := by
      have := h.one
      cases v <;> first | rfl | simp [Value.oneCell'] at this
    rw [hc]
    refine ⟨rfl, fun j l' u h1 h2 => ?_⟩
    cases j with
    | zero => simp at h1 h2; subst h1; subst h2; exact h
    | succ j => simp at h1

theorem flats_cells {C : Ctx} {w : World} {Φ : Nat → Prop} {H : Tag → TI} {cs : Array Value} {ls : List LV} {ds : List DV} (hn : cs.size = ls.length) (h : ∀ (j : Nat) l u, ls[j]? = some l → cs[j]? = some u → RL C w Φ H u l) (hd : LV.flats? ls = some ds) :
    cs.size = ds.length ∧ ∀ (j : Nat) x u, ds[j]? = some x → cs[j]? = some u → RC w Φ u x := by
  obtain ⟨h1, h2⟩ := LV.flats?_get hd
  refine ⟨by omega, fun j x u hx hu => ?_⟩
  have := h j (.d x) u (by rw [h2 j, hx]; rfl) hu
  cases this with
  | d _ _ hr => exact hr

theorem RL.one' {C : Ctx} {w : World} {Φ : Nat → Prop} {H : Tag → TI} {cs : Array Value} {ls : List LV} (hn : cs.size = ls.length) (h : ∀ (j : Nat) l u, ls[j]? = some l → cs[j]? = some u → RL C w Φ H u l) : ∀ u ∈ cs.toList, u.oneCell' = true := by
  intro u hu
  obtain ⟨j, hj⟩ := List.getElem?_of_mem hu
  have hlt : j < ls.length := by rw [← hn]; have := (List.getElem?_eq_some_iff.1 hj).1; simpa using this
  exact (h j ls[j] u (by simp [hlt]) (by simpa using hj)).one

theorem zero_cells {C : Ctx} {w : World} {Φ : Nat → Prop} {H : Tag → TI} {vs : List Value} {ds : List DV} (h : zeroL vs = some ds) : ds.length = vs.length ∧ ∀ (j : Nat) x u, ds[j]? = some x → vs[j]? = some u → RC w Φ u x := by
  obtain ⟨h1, h2⟩ := LV.flats?_get h
  refine ⟨by simpa using h1, fun j x u hx hu => ?_⟩
  have h3 := h2 j
  rw [hx, List.getElem?_map, hu] at h3
  simp only [Option.map_some, Option.some.injEq] at h3
  unfold constL at h3
  split at h3 <;> first
    | (injection h3 with h3; subst h3; first | exact .int _ _ | exact .bool _ | exact .str _ | exact .nil | exact .err0)
    | cases h3

theorem RC.fix {w : World} {Φ : Nat → Prop} {v : Value} {x : DV} (h : RC w Φ v x) (k : Option Nat) : RC w Φ v (fixDV k x) := by
  unfold fixDV
  split
  · cases h
    cases k with
    | none => exact .nil
    | some e => exact .nil' e
  · exact h
theorem fixRow_get (P : Program) (e : TypeId) : ∀ (ds : List DV) (j i : Nat), (fixRow P e j ds)[i]? = (ds[i]?).map (fixDV (slotOf P e (j + i)))
  | [], j, i => by simp [fixRow]
  | x :: r, j, 0 => by simp [fixRow]
  | x :: r, j, i + 1 => by
    simp only [fixRow, List.getElem?_cons_succ, fixRow_get P e r (j + 1) i]
    rw [show j + 1 + i = j + (i + 1) by omega]
theorem fixRow_length (P : Program) (e : TypeId) : ∀ (ds : List DV) (j : Nat), (fixRow P e j ds).length = ds.length
  | [], j => rfl
  | x :: r, j => by simp [fixRow, fixRow_length P e r]
theorem zeroR_cells {C : Ctx} {w : World} {Φ : Nat → Prop} {H : Tag → TI} {P : Program} {e : TypeId} {vs : List Value} {ds : List DV} (h : zeroR P e vs = some ds) : ds.length = vs.length ∧ ∀ (j : Nat) x u, ds[j]? = some x → vs[j]? = some u → RC w Φ u x := by
  unfold zeroR at h
  cases h0 : zeroL vs with
  | none => rw [h0] at h; cases h
  | some ds0 =>
    rw [h0] at h
    injection h with h
    subst h
    obtain ⟨h1, h2⟩ := zero_cells (C := C) (w := w) (Φ := Φ) (H := H) h0
    refine ⟨by rw [fixRow_length]; exact h1, fun j x u g1 g2 => ?_⟩
    rw [fixRow_get, Option.map_eq_some_iff] at g1
    obtain ⟨y, hy, rfl⟩ := g1
    exact (h2 j y u hy g2).fix _

theorem tZero_info {P : Program} {t : TypeId} {vs : List Value} (h : tZero P t = some vs) : ∃ i z, P.info? t = some i ∧ i.zero = some z ∧ z.cells.toList = vs := by
  unfold tZero at h
  cases hi : P.info? t with
  | none => simp [hi] at h
  | some i =>
    cases hz : i.zero with
    | none => simp [hi, hz] at h
    | some z =>
      simp only [hi, hz, Option.bind_some, Option.map_some, Option.some.injEq] at h
      exact ⟨i, z, rfl, hz, h⟩

/-- A new variable. -/
theorem Inv.newBox {S : Sys} {e : Entry} {Φ : Nat → Prop} {H : Tag → TI} {σ : Env} {a : Act} {w : World} (h : Inv S e Φ H σ a w) {d : Nat} (hf : Fresh H d) (cs : Array Value) (t : TypeId) (ls : List LV) (hn : cs.size = ls.length)
    (hl : ∀ (j : Nat) l u, ls[j]? = some l → cs[j]? = some u → RL S.C w Φ H u l) :
    Inv S e Φ (bindT H (.loc d .nil) (.box w.heap.size ls)) σ a (w.alloc (.cells cs t)) ∧ RA S.C (w.alloc (.cells cs t)) Φ (bindT H (.loc d .nil) (.box w.heap.size ls)) (.pointer (some ⟨w.heap.size, 0, none⟩)) (.one (.ptr (.loc d .nil) 0 ls)) := by
  have hg : H (.loc d .nil) = .none := hf .nil (by simp)
  refine ⟨h.bind hg (by simp) rfl (fun b hb => Below.heap_alloc w _ b hb) (by simp) rfl rfl rfl (fun b hb => by simp [TI.foot] at hb; subst hb; simp) ?_, .one _ _ (.ptr _ 0 ls w.heap.size (bindT_self H _ _))⟩
  exact .box _ ls cs t (heap_alloc_new w _) hn (fun j l v h1 h2 => (hl j l v h1 h2).keep (fun _ hb => hb) (fun b hb => Below.heap_alloc w _ b (h.hi.phi b hb)))
end Go.VS
namespace Go.VS
open Go Go.RowKit
set_option linter.unusedVariables false
set_option linter.unusedSimpArgs false

theorem HOk.up {C : Ctx} {w w' : World} {Φ Φ' : Nat → Prop} {H H' : Tag → TI} {φ : LV → LV} {i : TI} (h : HOk C w Φ H i) (f : Fits C w w' Φ Φ' H H' φ) (hf : ∀ b, b ∈ i.foot → w'.heap[b]? = w.heap[b]?) : HOk C w' Φ' H' (i.up φ) := by
  cases h with
  | none => exact .none
  | arr v t xs vals ho he hr =>
    have h' := (HOk.arr (C := C) (H := H) v t xs vals ho he hr).keep f.phi f.agree hf
    cases h' with
    | arr _ _ _ vals' ho' he' hr' => exact .arr v t xs vals' ho' he' hr'
  | box b c cur ty hh hn hr =>
    refine .box b _ cur ty (by rw [hf b (by simp [TI.foot])]; exact hh) (by simp [LV.ups_eq, hn]) (fun j l v h1 h2 => ?_)
    rw [LV.ups_eq, List.getElem?_map, Option.map_eq_some_iff] at h1
    obtain ⟨l0, h0, rfl⟩ := h1
    exact (hr j l0 v h0 h2).up f
  | ob F k v x h => exact .ob F k v x (C.stableK k w w' Φ Φ' F v x f.phi (fun b hb => hb.elim (f.agree b) (fun hm => hf b hm)) h)

/-- What is known has turned; the world has turned only where names say so. -/
theorem Inv.turn {S : Sys} {e : Entry} {Φ Φ' : Nat → Prop} {H H' : Tag → TI} {σ : Env} {a : Act} {w w' : World} {φ : LV → LV} (h : Inv S e Φ H σ a w) (f : Fits S.C w w' Φ Φ' H H' φ)
    (hfoot : ∀ g b, b ∈ (H' g).foot → b ∈ (H g).foot) (hok : ∀ g, HOk S.C w' Φ' H' (H' g)) (hnv : ∀ g, g.isVar = true → H' g = .none)
    (hpar : ∀ g, H g = .none → H' g = .none) (hphi : ∀ b, Φ' b → Φ b ∨ ∃ g, b ∈ (H g).foot) (hnp : ∀ g b, b ∈ (H' g).foot → ¬ Φ' b)
    (hsize : w'.heap.size = w.heap.size) (hblk : ∀ b, (∀ g, b ∉ (H g).foot) → w'.heap[b]? = w.heap[b]?) (ho : w'.os = w.os) (ht : w'.tape = w.tape) (hu : w'.output = w.output) : Inv S e Φ' H' (σ.up φ) a w' where
  hi :=
    { disj := fun g h' b h1 h2 => h.hi.disj g h' b (hfoot g b h1) (hfoot h' b h2)
      nophi := hnp
      lt := fun g b h1 => by rw [hsize]; exact h.hi.lt g b (hfoot g b h1)
      phi := fun b hb => by
        rw [hsize]
        rcases hphi b hb with hb | ⟨g, hb⟩
        · exact h.hi.phi b hb
        · exact (h.hi.lt g b hb).2
      ok := hok
      novar := hnv }
  env := fun t => by rw [Env.get_up]; exact (h.env t).up f
  G := S.C.stableG w w' (fun b hb => hblk b (fun g hg => by have := (h.hi.lt g b hg).1; omega)) ho ht hu h.G
  n := h.n
  defers := h.defers
  fr :=
    { size := by rw [hsize]; exact h.fr.size
      os := ho.trans h.fr.os
      tape := ht.trans h.fr.tape
      output := hu.trans h.fr.output
      block := fun b hb hg => by
        rw [hblk b (fun g hgb => ?_)]
        · exact h.fr.block b hb hg
        · rcases h.fr.foot g b hgb with hx | ⟨h', hx⟩
          · omega
          · exact hg h' hx
      phi := fun b hb => f.phi b (h.fr.phi b hb)
      phi' := fun b hb => by
        rcases hphi b hb with hb | ⟨g, hb⟩
        · exact h.fr.phi' b hb
        · rcases h.fr.foot g b hb with hx | ⟨h', hx⟩
          · exact .inr (.inl hx)
          · exact .inr (.inr ⟨h', hx⟩)
      foot := fun g b hb => h.fr.foot g b (hfoot g b hb)
      par := fun g hg => hpar _ (h.fr.par g hg) }

theorem single_self (g : Tag) (u : UI) : single g u g = some u := by simp [single]
theorem single_ne {g h : Tag} (u : UI) (hne : h ≠ g) : single g u h = none := by simp [single, hne]

/-- A name is given up. -/
theorem Inv.drop {S : Sys} {e : Entry} {Φ : Nat → Prop} {H : Tag → TI} {σ : Env} {a : Act} {w : World} (h : Inv S e Φ H σ a w) {g : Tag} (hv : g.isVar = false) :
    Inv S e Φ (fun h' => if h' = g then .none else (H h').up (ufun (single g .dead))) (σ.up (ufun (single g .dead))) a w := by
  have f : Fits S.C w w Φ Φ H (fun h' => if h' = g then .none else (H h').up (ufun (single g .dead))) (ufun (single g .dead)) := by
    refine fits_ufun (fun _ hb => hb) (fun _ _ => rfl) (fun g' hg' => single_ne _ (fun e1 => by rw [e1, hv] at hg'; cases hg')) (fun g' hg' => ?_) ?_ ?_ ?_ ?_
    · have hne : g' ≠ g := fun e1 => by rw [e1, single_self] at hg'; cases hg'
      simp only [hne, if_false]
    all_goals (intro g' ; intros; rename_i hu _; by_cases e1 : g' = g <;> simp [single, e1] at hu)
  refine h.turn f (fun g' b hb => ?_) (fun g' => ?_) (fun g' hg' => ?_) (fun g' hg' => by by_cases e1 : g' = g <;> simp [e1, hg']; rfl) (fun b hb => .inl hb) (fun g' b hb => ?_) rfl (fun _ _ => rfl) rfl rfl rfl
  · by_cases e1 : g' = g
    · simp [e1, TI.foot] at hb
    · simpa [e1, TI.foot_up] using hb
  · by_cases e1 : g' = g
    · simp only [e1, if_true]; exact .none
    · simp only [e1, if_false]; exact (h.hi.ok g').up f (fun _ _ => rfl)
  · by_cases e1 : g' = g
    · simp [e1]
    · simp only [e1, if_false, h.hi.novar g' hg']; rfl
  · by_cases e1 : g' = g
    · simp [e1, TI.foot] at hb
    · simp only [e1, if_false, TI.foot_up] at hb; exact h.hi.nophi g' b hb

/-- A store into a variable of the call's own. -/
theorem Inv.storeBox {S : Sys} {e : Entry} {Φ : Nat → Prop} {H : Tag → TI} {σ : Env} {a : Act} {w : World} (h : Inv S e Φ H σ a w) {g : Tag} {b off : Nat} {c ls : List LV} (hg : H g = .box b c) (cs : Array Value) (hn : cs.size = ls.length)
    (hl : ∀ (j : Nat) l u, ls[j]? = some l → cs[j]? = some u → RL S.C w Φ H u l) (hoff : off + ls.length ≤ c.length) (hno : LV.noTags g ls = true) :
    ∃ w' H', (storeCells ⟨b, off, none⟩ cs.toList).run S.C.P w = .ok () w' ∧ Inv S e Φ H' (σ.up (ufun (single g (.cells off ls)))) a w' ∧ (∀ d τ, H (.loc d τ) = .none → H' (.loc d τ) = .none) := by
  have hok := h.hi.ok g
  rw [hg] at hok
  cases hok with
  | box _ _ cur ty hh hcn hr =>
  have hgv : g.isVar = false := by
    cases hv : g.isVar with
    | false => rfl
    | true => rw [h.hi.novar g hv] at hg; cases hg
  have hrun := run_storeCells_at S.C.P b off ty cs.toList 0 cur w hh (by simp only [Array.length_toList]; omega) (RL.one' hn hl)
  simp only [Nat.add_zero, Array.length_toList] at hrun
  refine ⟨_, fun h' => if h' = g then .box b (repl (LV.ups (ufun (single g (.cells off ls))) c) off ls) else (H h').up (ufun (single g (.cells off ls))), hrun, ?inv, ?pres⟩
  case pres =>
    intro d τ h0
    by_cases e1 : Tag.loc d τ = g
    · rw [e1, hg] at h0; cases h0
    · simp only [e1, if_false, h0]; rfl
  have hnb : ∀ b', Φ b' → b' ≠ b := fun b' hb' e1 => h.hi.nophi g b (by rw [hg]; simp [TI.foot]) (e1 ▸ hb')
  have hother : ∀ b', b' ≠ b → (w.setRow b (cur.toList.take off ++ cs.toList ++ cur.toList.drop (off + cs.size)).toArray).heap[b']? = w.heap[b']? := fun b' hb' => setRow_other w b b' _ hb'
  have f : Fits S.C w (w.setRow b (cur.toList.take off ++ cs.toList ++ cur.toList.drop (off + cs.size)).toArray) Φ Φ H (fun h' => if h' = g then .box b (repl (LV.ups (ufun (single g (.cells off ls))) c) off ls) else (H h').up (ufun (single g (.cells off ls)))) (ufun (single g (.cells off ls))) := by
    refine fits_ufun (fun _ hb => hb) (fun b' hb' => hother b' (hnb b' hb')) (fun g' hg' => single_ne _ (fun e1 => by rw [e1, hgv] at hg'; cases hg')) (fun g' hg' => ?_) ?_ ?_ ?_ ?_
    · have hne : g' ≠ g := fun e1 => by rw [e1, single_self] at hg'; cases hg'
      simp only [hne, if_false]
    · intro g' i off' ds v t xs hu _
      by_cases e1 : g' = g <;> simp [single, e1] at hu
    · intro g' t' xs' v t xs hu _
      by_cases e1 : g' = g <;> simp [single, e1] at hu
    · intro g' off' ls' b' c' hu hb'
      by_cases e1 : g' = g
      · subst e1
        simp only [single_self, Option.some.injEq, UI.cells.injEq] at hu
        obtain ⟨rfl, rfl⟩ := hu
        rw [hg] at hb'
        simp only [TI.box.injEq] at hb'
        obtain ⟨rfl, rfl⟩ := hb'
        simp
      · simp [single, e1] at hu
    · intro g' c' b' c'' hu _
      by_cases e1 : g' = g <;> simp [single, e1] at hu
  refine h.turn f (fun g' b' hb' => ?_) (fun g' => ?_) (fun g' hg' => ?_) (fun g' hg' => by
    have e1 : g' ≠ g := fun e1 => by rw [e1, hg] at hg'; cases hg'
    simp only [e1, if_false, hg']; rfl) (fun b hb => .inl hb) (fun g' b' hb' => ?_) (by simp) (fun b' hb' => hother b' (fun e1 => hb' g (by rw [hg, e1]; simp [TI.foot]))) rfl rfl rfl
  · by_cases e1 : g' = g
    · simp only [e1, if_true, TI.foot] at hb'; rw [e1, hg]; exact hb'
    · simpa [e1, TI.foot_up] using hb'
  · by_cases e1 : g' = g
    · simp only [e1, if_true]
      have hlen : (repl (LV.ups (ufun (single g (.cells off ls))) c) off ls).length = c.length := by rw [length_repl _ _ _ (by simp [LV.ups_eq]; omega)]; simp [LV.ups_eq]
      refine .box b _ _ ty (setRow_heap w b cur _ ty _ hh) (by simp only [List.size_toArray, List.length_append, List.length_take, List.length_drop, Array.length_toList, hlen]; omega) (fun j l v h1 h2 => ?_)
      have hnew : ((cur.toList.take off ++ cs.toList ++ cur.toList.drop (off + cs.size)).toArray)[j]? = (repl cur.toList off cs.toList)[j]? := by simp [repl]
      rw [hnew, repl_get _ _ _ (by simp; omega)] at h2
      rw [repl_get _ _ _ (by simp [LV.ups_eq]; omega)] at h1
      simp only [Array.length_toList, hn] at h2
      by_cases h3 : j < off
      · simp only [h3, if_true] at h1 h2
        rw [LV.ups_eq, List.getElem?_map, Option.map_eq_some_iff] at h1
        obtain ⟨l0, h0, rfl⟩ := h1
        exact (hr j l0 v h0 (by simpa using h2)).up f
      · by_cases h4 : j < off + ls.length
        · simp only [h3, if_false, h4, if_true] at h1 h2
          have hrl := (hl (j - off) l v h1 (by simpa using h2)).up f
          have : l.up (ufun (single g (.cells off ls))) = l := LV.up_noTag (g := g) (fun h' hne => single_ne _ hne) l (by
            have : ∀ (ls : List LV), LV.noTags g ls = true → ∀ (j : Nat) l, ls[j]? = some l → l.noTag g = true := by
              intro ls
              induction ls with
              | nil => intro _ j l hj; simp at hj
              | cons a r ih =>
                intro hno j l hj
                simp only [LV.noTags, Bool.and_eq_true] at hno
                cases j with
                | zero => simp at hj; subst hj; exact hno.1
                | succ j => exact ih hno.2 j l (by simpa using hj)
            exact this ls hno _ l h1)
          rw [this] at hrl
          exact hrl
        · simp only [h3, if_false, h4] at h1 h2
          rw [LV.ups_eq, List.getElem?_map, Option.map_eq_some_iff] at h1
          obtain ⟨l0, h0, rfl⟩ := h1
          exact (hr j l0 v h0 (by simpa using h2)).up f
    · simp only [e1, if_false]
      exact (h.hi.ok g').up f (fun b' hb' => hother b' (fun e2 => e1 (h.hi.disj g' g b' hb' (by rw [hg, e2]; simp [TI.foot]))))
  · have hne : g' ≠ g := fun e1 => by rw [e1, hgv] at hg'; cases hg'
    simp only [hne, if_false, h.hi.novar g' hg']; rfl
  · by_cases e1 : g' = g
    · simp only [e1, if_true, TI.foot] at hb'
      exact fun hp => hnb b' hp (by simpa using hb')
    · simp only [e1, if_false, TI.foot_up] at hb'
      exact h.hi.nophi g' b' hb'
end Go.VS
namespace Go.VS
open Go Go.RowKit
set_option linter.unusedVariables false
set_option linter.unusedSimpArgs false

theorem idx_lt {i i' s j : Nat} (h : i' < i) (hj : j < s) : i' * s + j < i * s := by
  calc i' * s + j < i' * s + s := by omega
    _ = (i' + 1) * s := by rw [Nat.add_mul, Nat.one_mul]
    _ ≤ i * s := Nat.mul_le_mul_right _ h

theorem Inv.storeArr {S : Sys} {e : Entry} {Φ : Nat → Prop} {H : Tag → TI} {σ : Env} {a : Act} {w : World} (h : Inv S e Φ H σ a w) {g : Tag} {b n cap i off : Nat} {t : TypeId} {xs : List (List DV)} {ds : List DV}
    (hg : H g = .arr (.slice (some ⟨b, 0, none⟩) n cap) t xs) (hi : i < xs.length) (cs : Array Value) (hn : cs.size = ds.length) (hl : ∀ (j : Nat) x u, ds[j]? = some x → cs[j]? = some u → RC w Φ u x) (hoff : off + ds.length ≤ S.C.P.cellsOf t) :
    ∃ w' H', (storeCells ⟨b, i * S.C.P.cellsOf t + off, none⟩ cs.toList).run S.C.P w = .ok () w' ∧ Inv S e Φ H' (σ.up (ufun (single g (.row i off ds)))) a w' ∧ (∀ d τ, H (.loc d τ) = .none → H' (.loc d τ) = .none) := by
  have hok := h.hi.ok g
  rw [hg] at hok
  cases hok with
  | arr _ _ _ vals ho he hr =>
  have hgv : g.isVar = false := by
    cases hv : g.isVar with
    | false => rfl
    | true => rw [h.hi.novar g hv] at hg; cases hg
  rcases ho.2 with ⟨h0, _⟩ | ⟨b', cap', cur, hsl, hbase, hh, hnc, hcm, hcs, htake⟩
  · simp at h0
  simp only [Value.slice.injEq, Option.some.injEq, Addr.mk.injEq, and_true, true_and] at hsl
  obtain ⟨rfl, rfl, rfl⟩ := hsl
  generalize hs : S.C.P.cellsOf t = s at *
  have hvl : vals.length = xs.length * s := ho.1
  have hin : i * s + off + ds.length ≤ xs.length * s := by
    have : (i + 1) * s ≤ xs.length * s := Nat.mul_le_mul_right _ hi
    rw [Nat.add_mul, Nat.one_mul] at this
    omega
  have hcur : xs.length * s ≤ cur.size := by rw [hcs]; exact Nat.mul_le_mul_right _ hnc
  have hone : ∀ u ∈ cs.toList, u.oneCell' = true := by
    intro u hu
    obtain ⟨j, hj⟩ := List.getElem?_of_mem hu
    have hlt : j < ds.length := by rw [← hn]; have := (List.getElem?_eq_some_iff.1 hj).1; simpa using this
    exact (hl j ds[j] u (by simp [hlt]) (by simpa using hj)).one
  have hrun := run_storeCells_at S.C.P b (i * s + off) t cs.toList 0 cur w hh (by simp only [Array.length_toList]; omega) hone
  simp only [Nat.add_zero, Array.length_toList] at hrun
  refine ⟨_, fun h' => if h' = g then .arr (.slice (some ⟨b, 0, none⟩) xs.length cap) t (xs.modify i (fun r => repl r off ds)) else (H h').up (ufun (single g (.row i off ds))), hrun, ?inv, ?pres⟩
  case pres =>
    intro d τ h0
    by_cases e1 : Tag.loc d τ = g
    · rw [e1, hg] at h0; cases h0
    · simp only [e1, if_false, h0]; rfl
  have hnb : ∀ b', Φ b' → b' ≠ b := fun b' hb' e1 => h.hi.nophi g b (by rw [hg]; simp [TI.foot, Value.ownBlock]) (e1 ▸ hb')
  generalize hnew : (cur.toList.take (i * s + off) ++ cs.toList ++ cur.toList.drop (i * s + off + cs.size)) = new
  have hnew' : new = repl cur.toList (i * s + off) cs.toList := by rw [← hnew]; simp [repl]
  have hother : ∀ b', b' ≠ b → (w.setRow b new.toArray).heap[b']? = w.heap[b']? := fun b' hb' => setRow_other w b b' _ hb'
  have f : Fits S.C w (w.setRow b new.toArray) Φ Φ H (fun h' => if h' = g then .arr (.slice (some ⟨b, 0, none⟩) xs.length cap) t (xs.modify i (fun r => repl r off ds)) else (H h').up (ufun (single g (.row i off ds)))) (ufun (single g (.row i off ds))) := by
    refine fits_ufun (fun _ hb => hb) (fun b' hb' => hother b' (hnb b' hb')) (fun g' hg' => single_ne _ (fun e1 => by rw [e1, hgv] at hg'; cases hg')) (fun g' hg' => ?_) ?_ ?_ ?_ ?_
    · have hne : g' ≠ g := fun e1 => by rw [e1, single_self] at hg'; cases hg'
      simp only [hne, if_false]
    · intro g' i' off' ds' v t' xs' hu hb'
      by_cases e1 : g' = g
      · subst e1
        simp only [single_self, Option.some.injEq, UI.row.injEq] at hu
        obtain ⟨rfl, rfl, rfl⟩ := hu
        rw [hg] at hb'
        simp only [TI.arr.injEq] at hb'
        obtain ⟨rfl, rfl, rfl⟩ := hb'
        simp
      · simp [single, e1] at hu
    · intro g' t' xs' v t xs hu _
      by_cases e1 : g' = g <;> simp [single, e1] at hu
    · intro g' off' ls' b' c' hu _
      by_cases e1 : g' = g <;> simp [single, e1] at hu
    · intro g' c' b' c'' hu _
      by_cases e1 : g' = g <;> simp [single, e1] at hu
  refine h.turn f (fun g' b' hb' => ?_) (fun g' => ?_) (fun g' hg' => ?_) (fun g' hg' => by
    have e1 : g' ≠ g := fun e1 => by rw [e1, hg] at hg'; cases hg'
    simp only [e1, if_false, hg']; rfl) (fun b hb => .inl hb) (fun g' b' hb' => ?_) (by simp) (fun b' hb' => hother b' (fun e1 => hb' g (by rw [hg, e1]; simp [TI.foot, Value.ownBlock]))) rfl rfl rfl
  · by_cases e1 : g' = g
    · simp only [e1, if_true, TI.foot] at hb'; rw [e1, hg]; exact hb'
    · simpa [e1, TI.foot_up] using hb'
  · by_cases e1 : g' = g
    · simp only [e1, if_true]
      have hvals : (repl vals (i * s + off) cs.toList).length = vals.length := length_repl _ _ _ (by simp; omega)
      refine .arr _ t _ (repl vals (i * s + off) cs.toList) ?_ ?_ ?_
      · rw [hs]
        refine ⟨by rw [hvals, hvl]; simp, .inr ⟨b, cap, _, by simp, hbase, setRow_heap w b cur _ t _ hh, by simpa using hnc, hcm, ?_, ?_⟩⟩
        · simp only [hnew', List.size_toArray]
          rw [length_repl _ _ _ (by simp; omega)]
          simpa using hcs
        · simp only [hnew', List.length_modify, ← htake]
          apply List.ext_getElem?
          intro j
          rw [List.getElem?_take, repl_get _ _ _ (by simp; omega), repl_get _ _ _ (by simp; omega), List.getElem?_take]
          simp only [Array.length_toList]
          repeat' split
          all_goals first | rfl | omega
      · intro r hr'
        rw [hs]
        obtain ⟨j, hj⟩ := List.getElem?_of_mem hr'
        rw [List.getElem?_modify] at hj
        simp only [Option.map_eq_map, Option.map_eq_some_iff] at hj
        obtain ⟨r0, h0, rfl⟩ := hj
        have hr0 := he r0 (List.mem_of_getElem? h0)
        split
        · rw [length_repl _ _ _ (by omega)]; exact hr0
        · exact hr0
      · intro i' r j x u h1 h2 h3
        rw [hs] at h3
        rw [List.getElem?_modify] at h1
        simp only [Option.map_eq_map, Option.map_eq_some_iff] at h1
        obtain ⟨r0, h0, rfl⟩ := h1
        have hr0 := he r0 (List.mem_of_getElem? h0)
        have keep : ∀ {u x}, RC w Φ u x → RC (w.setRow b new.toArray) Φ u x := fun hx => hx.keep (fun _ hb => hb) (fun b' hb' => hother b' (hnb b' hb'))
        rw [repl_get _ _ _ (by simp; omega)] at h3
        simp only [Array.length_toList, hn] at h3
        by_cases e2 : i = i'
        · subst e2
          simp only [if_true] at h2
          rw [repl_get _ _ _ (by omega)] at h2
          by_cases h4 : j < off
          · simp only [h4, if_true, show i * s + j < i * s + off by omega] at h2 h3
            exact keep (hr i r0 j x u h0 h2 h3)
          · by_cases h5 : j < off + ds.length
            · simp only [h4, if_false, h5, if_true, show ¬ i * s + j < i * s + off by omega, show i * s + j < i * s + off + ds.length by omega, show i * s + j - (i * s + off) = j - off by omega] at h2 h3
              exact keep (hl (j - off) x u h2 (by simpa using h3))
            · simp only [h4, if_false, h5, show ¬ i * s + j < i * s + off by omega, show ¬ i * s + j < i * s + off + ds.length by omega] at h2 h3
              exact keep (hr i r0 j x u h0 h2 h3)
        · simp only [e2, if_false, id] at h2
          have hj : j < s := by rw [← hr0]; exact (List.getElem?_eq_some_iff.1 h2).1
          have hne : ¬ (i * s + off ≤ i' * s + j ∧ i' * s + j < i * s + off + ds.length) := by
            rcases Nat.lt_or_gt_of_ne e2 with h4 | h4
            · have := idx_lt (s := s) (j := off + ds.length - 1) h4
              by_cases h5 : ds.length = 0
              · omega
              · have := this (by omega); omega
            · have := idx_lt (s := s) h4 hj; omega
          have h3' : vals[i' * s + j]? = some u := by
            by_cases h4 : i' * s + j < i * s + off
            · simpa [h4] using h3
            · have h5 : ¬ i' * s + j < i * s + off + ds.length := by omega
              simpa [h4, h5] using h3
          exact keep (hr i' r0 j x u h0 h2 h3')
    · simp only [e1, if_false]
      exact (h.hi.ok g').up f (fun b' hb' => hother b' (fun e2 => e1 (h.hi.disj g' g b' hb' (by rw [hg, e2]; simp [TI.foot, Value.ownBlock]))))
  · have hne : g' ≠ g := fun e1 => by rw [e1, hgv] at hg'; cases hg'
    simp only [hne, if_false, h.hi.novar g' hg']; rfl
  · by_cases e1 : g' = g
    · simp only [e1, if_true, TI.foot, Value.ownBlock] at hb'
      exact fun hp => hnb b' hp (by simpa using hb')
    · simp only [e1, if_false, TI.foot_up] at hb'
      exact h.hi.nophi g' b' hb'
end Go.VS
namespace Go.VS
open Go Go.RowKit
set_option linter.unusedVariables false
set_option linter.unusedSimpArgs false

def frzΦ (Φ : Nat → Prop) (H : Tag → TI) (p : Tag → Bool) (b : Nat) : Prop := Φ b ∨ ∃ g, p g = true ∧ b ∈ (H g).foot
def frzH (P : Program) (H : Tag → TI) (p : Tag → Bool) (g : Tag) : TI := if p g then .none else (H g).up (frz P p)

theorem arr_reads {C : Ctx} {w : World} {Φ : Nat → Prop} {H : Tag → TI} {v : Value} {t : TypeId} {xs : List (List DV)} (h : HOk C w Φ H (.arr v t xs)) {Φ' : Nat → Prop} (hΦ : ∀ b, Φ b → Φ' b) (hb : ∀ b, b ∈ (TI.arr v t xs).foot → Φ' b) : RC w Φ' v (.list (C.P.cellsOf t) xs) := by
  cases h with
  | arr _ _ _ vals ho he hr =>
    rcases ho.2 with ⟨rfl, h0⟩ | ⟨b, cap, cur, rfl, hbase, hh, hnc, hcm, hcs, htake⟩
    · have : xs = [] := List.eq_nil_of_length_eq_zero h0
      subst this
      exact .nil' _
    · have hv : vals.length = xs.length * C.P.cellsOf t := ho.1
      refine .list _ xs b 0 cap (fun j => vals.getD j undef) hnc hcm (fun _ => hb b (by simp [TI.foot, Value.ownBlock])) he (fun j hj => ?_) (fun i r j x h1 h2 => ?_)
      · have := ho.cells (g := b) rfl j (vals.getD j undef) (by simp [hv, hj])
        rw [add_spot] at this
        exact this
      · have hlt : i < xs.length := (List.getElem?_eq_some_iff.1 h1).1
        have hjl : j < C.P.cellsOf t := by rw [← he r (List.mem_of_getElem? h1)]; exact (List.getElem?_eq_some_iff.1 h2).1
        have hidx : i * C.P.cellsOf t + j < vals.length := by rw [hv]; exact idx_lt hlt hjl
        exact (hr i r j x _ h1 h2 (by simp [hidx])).keep hΦ (fun _ _ => rfl)

theorem RL.flat {C : Ctx} {w : World} {Φ : Nat → Prop} {H : Tag → TI} {v : Value} {x : DV} (h : RL C w Φ H v (.d x)) : RC w Φ v x := by
  cases h with
  | d _ _ h => exact h

section
variable {C : Ctx} {w : World} {Φ : Nat → Prop} {H : Tag → TI} {p : Tag → Bool}
mutual
theorem RL.frz (hi : HInv C w Φ H) : ∀ (l : LV) {v : Value}, RL C w Φ H v l → RL C w (frzΦ Φ H p) (frzH C.P H p) v (l.up (VS.frz C.P p))
  | .d x, v, h => by
    cases h with
    | d v x h => simp only [LV.up]; exact .d v x (h.keep (fun b hb => .inl hb) (fun _ _ => rfl))
  | .top, v, h => by
    cases h with
    | top v h1 => simp only [LV.up]; exact .top v h1
  | .own g t xs, v, h => by
    simp only [LV.up, VS.frz]
    cases h with
    | own g t xs v h h1 =>
      split
      · rename_i hp
        have hok := hi.ok g
        rw [h] at hok
        exact .d _ _ (arr_reads hok (fun b hb => .inl hb) (fun b hb => .inr ⟨g, hp, by rw [h]; exact hb⟩))
      · rename_i hp
        exact .own g t xs v (by simp [frzH, hp, h, TI.up]) h1
    | own0 g t hg =>
      split
      · exact .d _ _ (.nil' _)
      · exact .own0 g t hg
  | .ptr g off c, v, h => by
    simp only [LV.up, VS.frz]
    cases h with
    | ptr g off c b h =>
      split
      · rename_i hp
        have hok := hi.ok g
        rw [h] at hok
        cases hok with
        | box _ _ cur ty hh hn hr =>
          have hall := RLs.frz hi c
          cases hd : LV.flats? (LV.ups (VS.frz C.P p) c) with
          | none => exact .top _ rfl
          | some ds =>
            obtain ⟨hdl, hdg⟩ := LV.flats?_get hd
            have hlen : ds.length = c.length := by rw [hdl, LV.ups_eq, List.length_map]
            have hbΦ : frzΦ Φ H p b := .inr ⟨g, hp, by rw [h]; simp [TI.foot]⟩
            have hcell : ∀ j, j < ds.length → w.cell? ⟨b, 0 + j, none⟩ = some (cur.getD j undef) := by
              intro j hj
              rw [Nat.zero_add, cell_of_row w b j cur ty (0, 0) hh]
              have : j < cur.size := by omega
              simp [this]
            have hread : ∀ (j : Nat) x, ds[j]? = some x → RC w (frzΦ Φ H p) (cur.getD j undef) x := by
              intro j x hx
              have hj : j < cur.size := by rw [hn, ← hlen]; exact (List.getElem?_eq_some_iff.1 hx).1
              have hjc : j < c.length := by rw [← hn]; exact hj
              have h2 := hdg j
              rw [LV.ups_eq, List.getElem?_map, hx, List.getElem?_eq_getElem hjc] at h2
              simp only [Option.map_some, Option.some.injEq] at h2
              have := hall j c[j] (by simp [hjc]) (hr j c[j] cur[j] (by simp [hjc]) (by simp [hj]))
              rw [h2] at this
              simpa [hj] using this.flat
            dsimp only
            by_cases h0 : off = 0
            · rw [if_pos h0]
              subst h0
              exact .d _ _ (by simpa using RC.ptr ds b 0 (fun j => cur.getD j undef) hbΦ hcell hread)
            · rw [if_neg h0]
              simpa using RL.dptr (C := C) (H := frzH C.P H p) ds off b 0 (fun j => cur.getD j undef) hbΦ hcell hread
      · rename_i hp
        exact .ptr g off _ b (by simp [frzH, hp, h, TI.up])
  | .eptr g t xs i off, v, h => by
    simp only [LV.up, VS.frz]
    cases h with
    | eptr g t xs i off b n cap h hlt =>
      split
      · exact .top _ rfl
      · rename_i hp
        exact .eptr g t xs i off b n cap (by simp [frzH, hp, h, TI.up]) hlt
  | .dptr c off, v, h => by
    simp only [LV.up]
    cases h with
    | dptr c off b o cv hb hv hr => exact .dptr c off b o cv (.inl hb) hv (fun j x hj => (hr j x hj).keep (fun b hb => .inl hb) (fun _ _ => rfl))
  | .clo f caps, v, h => by
    simp only [LV.up]
    cases h with
    | clo f caps vs hn hh =>
      refine .clo f _ vs (by simp [LV.ups_eq, hn]) (fun i v l h1 h2 => ?_)
      rw [LV.ups_eq, List.getElem?_map, Option.map_eq_some_iff] at h2
      obtain ⟨l0, h0, rfl⟩ := h2
      exact RLs.frz hi caps i l0 h0 (hh i v l0 h1 h0)
  | .obj g k x, v, h => by
    simp only [LV.up, VS.frz]
    cases h with
    | obj g k x F v h h1 =>
      split
      · exact .top v h1
      · rename_i hp
        exact .obj g k x F v (by simp [frzH, hp, h, TI.up]) h1
theorem RLs.frz (hi : HInv C w Φ H) : ∀ (ls : List LV) (j : Nat) (l : LV) {v : Value}, ls[j]? = some l → RL C w Φ H v l → RL C w (frzΦ Φ H p) (frzH C.P H p) v (l.up (VS.frz C.P p))
  | [], j, l, v, hj, _ => by simp at hj
  | a :: r, 0, l, v, hj, h => by
    simp at hj
    subst hj
    exact RL.frz hi a h
  | a :: r, j + 1, l, v, hj, h => RLs.frz hi r j l (by simpa using hj) h
end

theorem RA.frz (hi : HInv C w Φ H) {v : Value} {a : AV} (h : RA C w Φ H v a) : RA C w (frzΦ Φ H p) (frzH C.P H p) v (a.up (VS.frz C.P p)) := by
  induction h with
  | one v l h => simp only [AV.up]; exact .one v _ (RL.frz hi l h)
  | any v => simp only [AV.up, LV.up]; exact .any v
  | agg ls vs hn h =>
    simp only [AV.up]
    refine .agg _ vs (by simp [LV.ups_eq, hn]) (fun i v l h1 h2 => ?_)
    rw [LV.ups_eq, List.getElem?_map, Option.map_eq_some_iff] at h2
    obtain ⟨l0, h0, rfl⟩ := h2
    exact RL.frz hi l0 (h i v l0 h1 h0)
  | tup as vs hn h ih =>
    simp only [AV.up]
    refine .tup _ vs (by simp [AV.ups_eq, hn]) (fun i v l h1 h2 => ?_)
    rw [AV.ups_eq, List.getElem?_map, Option.map_eq_some_iff] at h2
    obtain ⟨l0, h0, rfl⟩ := h2
    exact ih i v l0 h1 h0

theorem HInv.frz (hi : HInv C w Φ H) : HInv C w (frzΦ Φ H p) (frzH C.P H p) where
  disj := fun g h b h1 h2 => by
    unfold frzH at h1 h2
    split at h1
    · simp [TI.foot] at h1
    · split at h2
      · simp [TI.foot] at h2
      · rw [TI.foot_up] at h1 h2; exact hi.disj g h b h1 h2
  nophi := fun g b h1 hp => by
    unfold frzH at h1
    split at h1
    · simp [TI.foot] at h1
    · rename_i hg
      rw [TI.foot_up] at h1
      rcases hp with hp | ⟨g', hg', hb⟩
      · exact hi.nophi g b h1 hp
      · have := hi.disj g g' b h1 hb
        subst this
        exact hg hg'
  lt := fun g b h1 => by
    unfold frzH at h1
    split at h1
    · simp [TI.foot] at h1
    · rw [TI.foot_up] at h1; exact hi.lt g b h1
  phi := fun b hb => by
    rcases hb with hb | ⟨g, _, hb⟩
    · exact hi.phi b hb
    · exact (hi.lt g b hb).2
  ok := fun g => by
    unfold frzH
    split
    · exact .none
    · have := hi.ok g
      cases hg : H g with
      | none => simp only [TI.up]; exact .none
      | arr v t xs =>
        rw [hg] at this
        have h' := this.keep (Φ' := frzΦ Φ H p) (fun b hb => .inl hb) (fun _ _ => rfl) (fun _ _ => rfl)
        cases h' with
        | arr _ _ _ vals ho he hr => exact .arr v t xs vals ho he hr
      | box b c =>
        rw [hg] at this
        cases this with
        | box _ _ cur ty hh hn hr =>
          refine .box b _ cur ty hh (by simp [LV.ups_eq, hn]) (fun j l v h1 h2 => ?_)
          rw [LV.ups_eq, List.getElem?_map, Option.map_eq_some_iff] at h1
          obtain ⟨l0, h0, rfl⟩ := h1
          exact RL.frz hi l0 (hr j l0 v h0 h2)
      | ob F k v x =>
        rw [hg] at this
        cases this with
        | ob _ _ _ _ h => exact .ob F k v x (C.stableK k w w Φ (frzΦ Φ H p) F v x (fun b hb => .inl hb) (fun _ _ => rfl) h)
  novar := fun g hg => by
    unfold frzH
    split
    · rfl
    · rw [hi.novar g hg]; rfl
end

theorem frzH_pres {P : Program} {H : Tag → TI} {p : Tag → Bool} {g : Tag} (h : H g = .none) : frzH P H p g = .none := by
  unfold frzH
  split
  · rfl
  · rw [h]; rfl

theorem Inv.frz {S : Sys} {e : Entry} {Φ : Nat → Prop} {H : Tag → TI} {σ : Env} {a : Act} {w : World} (h : Inv S e Φ H σ a w) (p : Tag → Bool) : Inv S e (frzΦ Φ H p) (frzH S.C.P H p) (σ.up (VS.frz S.C.P p)) a w where
  hi := h.hi.frz
  env := fun t => by rw [Env.get_up]; exact RA.frz h.hi (h.env t)
  G := h.G
  n := h.n
  defers := h.defers
  fr :=
    { h.fr with
      phi := fun b hb => .inl (h.fr.phi b hb)
      phi' := fun b hb => by
        rcases hb with hb | ⟨g, _, hb⟩
        · exact h.fr.phi' b hb
        · rcases h.fr.foot g b hb with hx | ⟨h', hx⟩
          · exact .inr (.inl hx)
          · exact .inr (.inr ⟨h', hx⟩)
      foot := fun g b hb => by
        unfold frzH at hb
        split at hb
        · simp [TI.foot] at hb
        · rw [TI.foot_up] at hb; exact h.fr.foot g b hb
      par := fun g hg => frzH_pres (h.fr.par g hg) }

end Go.VS
namespace Go.VS
open Go Go.RowKit
set_option linter.unusedVariables false
set_option linter.unusedSimpArgs false

/-- The world has grown; but for one block of which nothing is known it is as it was. -/
theorem Inv.grow {S : Sys} {e : Entry} {Φ : Nat → Prop} {H : Tag → TI} {σ : Env} {a : Act} {w w' : World} (h : Inv S e Φ H σ a w) (row : Option Nat)
    (hrow : ∀ r, row = some r → ¬ Φ r ∧ (∀ g, r ∉ (H g).foot) ∧ S.C.NG ≤ r ∧ (e.w.heap.size ≤ r ∨ ∃ h, r ∈ (e.H h).foot)) (hg : w.grownBy w' row) : Inv S e Φ H σ a w' := by
  have hphi : ∀ b, Φ b → w'.heap[b]? = w.heap[b]? := fun b hb => hg.block b (h.hi.phi b hb) (fun e1 => (hrow b e1.symm).1 hb)
  have hfoot : ∀ g b, b ∈ (H g).foot → w'.heap[b]? = w.heap[b]? := fun g b hb => hg.block b (h.hi.lt g b hb).2 (fun e1 => (hrow b e1.symm).2.1 g hb)
  exact
  { hi :=
    { disj := h.hi.disj
      nophi := h.hi.nophi
      lt := fun g b hb => ⟨(h.hi.lt g b hb).1, Nat.lt_of_lt_of_le (h.hi.lt g b hb).2 hg.size⟩
      phi := fun b hb => Nat.lt_of_lt_of_le (h.hi.phi b hb) hg.size
      ok := fun g => (h.hi.ok g).keep (fun _ hb => hb) hphi (hfoot g)
      novar := h.hi.novar }
    env := fun t => (h.env t).keep (fun _ hb => hb) hphi
    G := S.C.stableG w w' (fun b hb => hg.block b (Nat.lt_of_lt_of_le hb (S.C.sizeG w h.G)) (fun e1 => by have := (hrow b e1.symm).2.2.1; omega)) hg.os hg.tape hg.output h.G
    n := h.n
    defers := h.defers
    fr :=
    { size := Nat.le_trans h.fr.size hg.size
      os := hg.os.trans h.fr.os
      tape := hg.tape.trans h.fr.tape
      output := hg.output.trans h.fr.output
      block := fun b hb hnf => (hg.block b (Nat.lt_of_lt_of_le hb h.fr.size) (fun e1 => by
        rcases (hrow b e1.symm).2.2.2 with hx | ⟨h', hx⟩
        · omega
        · exact hnf h' hx)).trans (h.fr.block b hb hnf)
      phi := h.fr.phi
      phi' := h.fr.phi'
      foot := h.fr.foot
      par := h.fr.par } }

/-- Something of the world gets a name. -/
theorem Inv.name {S : Sys} {e : Entry} {Φ : Nat → Prop} {H : Tag → TI} {σ : Env} {a : Act} {w : World} (h : Inv S e Φ H σ a w) {g : Tag} {i : TI} (hg : H g = .none) (hnp : ∀ τ, g ≠ .par τ) (hv : g.isVar = false)
    (hf : ∀ b, b ∈ i.foot → S.C.NG ≤ b ∧ b < w.heap.size ∧ ¬ Φ b ∧ (∀ g, b ∉ (H g).foot) ∧ (e.w.heap.size ≤ b ∨ ∃ h, b ∈ (e.H h).foot)) (hok : HOk S.C w Φ H i) : Inv S e Φ (bindT H g i) σ a w := by
  have old := bindT_old hg i
  exact
  { hi :=
    { disj := fun g1 g2 b h1 h2 => by
        by_cases e1 : g1 = g
        · by_cases e2 : g2 = g
          · rw [e1, e2]
          · rw [e1, bindT_self] at h1
            rw [bindT_ne H g i e2] at h2
            exact absurd h2 ((hf b h1).2.2.2.1 g2)
        · by_cases e2 : g2 = g
          · rw [e2, bindT_self] at h2
            rw [bindT_ne H g i e1] at h1
            exact absurd h1 ((hf b h2).2.2.2.1 g1)
          · rw [bindT_ne H g i e1] at h1
            rw [bindT_ne H g i e2] at h2
            exact h.hi.disj g1 g2 b h1 h2
      nophi := fun g1 b h1 hp => by
        by_cases e1 : g1 = g
        · rw [e1, bindT_self] at h1; exact (hf b h1).2.2.1 hp
        · rw [bindT_ne H g i e1] at h1; exact h.hi.nophi g1 b h1 hp
      lt := fun g1 b h1 => by
        by_cases e1 : g1 = g
        · rw [e1, bindT_self] at h1; exact ⟨(hf b h1).1, (hf b h1).2.1⟩
        · rw [bindT_ne H g i e1] at h1; exact h.hi.lt g1 b h1
      phi := h.hi.phi
      ok := fun g1 => by
        by_cases e1 : g1 = g
        · rw [e1, bindT_self]; exact hok.more old
        · rw [bindT_ne H g i e1]; exact (h.hi.ok g1).more old
      novar := fun g1 hg1 => by
        rw [bindT_ne H g i (fun e1 => by rw [e1, hv] at hg1; cases hg1)]
        exact h.hi.novar g1 hg1 }
    env := fun t => (h.env t).more old
    G := h.G
    n := h.n
    defers := h.defers
    fr := { h.fr with
      par := fun g1 hg1 => by rw [bindT_ne H g i (fun e1 => hnp _ e1.symm)]; exact h.fr.par g1 hg1
      foot := fun g1 b h1 => by
        by_cases e1 : g1 = g
        · rw [e1, bindT_self] at h1; exact (hf b h1).2.2.2.2
        · rw [bindT_ne H g i e1] at h1; exact h.fr.foot g1 b h1 } }

theorem arr_foot {w : World} {base : Nat} {t : TypeId} {size : Nat} {v : Value} {n : Nat} {vals : List Value} {xs : List (List DV)} (ho : w.ownsRow base t size v n vals) {b : Nat} (hb : b ∈ (TI.arr v t xs).foot) : v.ownBlock = some b := by
  simpa [TI.foot] using hb

/-- A row of the call's own gets a name. -/
theorem Inv.nameArr {S : Sys} {e : Entry} {Φ : Nat → Prop} {H : Tag → TI} {σ : Env} {a : Act} {w : World} (h : Inv S e Φ H σ a w) {d : Nat} (hf : Fresh H d) {v : Value} {t : TypeId} {xs : List (List DV)} {vals : List Value}
    (ho : w.ownsRow S.C.NG t (S.C.P.cellsOf t) v xs.length vals) (he : ∀ r, r ∈ xs → r.length = S.C.P.cellsOf t) (hr : ∀ (i : Nat) r (j : Nat) x u, xs[i]? = some r → r[j]? = some x → vals[i * S.C.P.cellsOf t + j]? = some u → RC w Φ u x)
    (hb : ∀ b, v.ownBlock = some b → ¬ Φ b ∧ (∀ g, b ∉ (H g).foot) ∧ (e.w.heap.size ≤ b ∨ ∃ h, b ∈ (e.H h).foot)) :
    Inv S e Φ (bindT H (.loc d .nil) (.arr v t xs)) σ a w ∧ RA S.C w Φ (bindT H (.loc d .nil) (.arr v t xs)) v (.one (.own (.loc d .nil) t xs)) := by
  have h1 : v.oneCell' = true := by rcases ho.2 with ⟨rfl, _⟩ | ⟨_, _, _, rfl, _⟩ <;> rfl
  refine ⟨h.name (hf .nil (by simp)) (by simp) rfl (fun b hbf => ?_) (.arr v t xs vals ho he hr), .one _ _ (.own _ t xs v (bindT_self H _ _) h1)⟩
  have hob := arr_foot ho hbf
  have hl := ho.lt b hob
  exact ⟨hl.1, hl.2, hb b hob⟩

/-- A new row. -/
theorem Inv.newRow {S : Sys} {e : Entry} {Φ : Nat → Prop} {H : Tag → TI} {σ : Env} {a : Act} {w : World} (h : Inv S e Φ H σ a w) {d : Nat} (hf : Fresh H d) (cs : Array Value) (t : TypeId) (xs : List (List DV)) (hm : xs.length ≤ maxLen) (hn : cs.size = xs.length * S.C.P.cellsOf t)
    (he : ∀ r, r ∈ xs → r.length = S.C.P.cellsOf t) (hr : ∀ (i : Nat) r (j : Nat) x u, xs[i]? = some r → r[j]? = some x → cs[i * S.C.P.cellsOf t + j]? = some u → RC w Φ u x) :
    Inv S e Φ (bindT H (.loc d .nil) (.arr (.slice (some ⟨w.heap.size, 0, none⟩) xs.length xs.length) t xs)) σ a (w.alloc (.cells cs t)) ∧
      RA S.C (w.alloc (.cells cs t)) Φ (bindT H (.loc d .nil) (.arr (.slice (some ⟨w.heap.size, 0, none⟩) xs.length xs.length) t xs)) (.slice (some ⟨w.heap.size, 0, none⟩) xs.length xs.length) (.one (.own (.loc d .nil) t xs)) := by
  have h' := h.grow none (fun r hr => by cases hr) (World.grownBy_alloc w (.cells cs t) none)
  have ho := World.ownsRow_lit (e := t) w cs xs.length (S.C.sizeG w h.G) hm hn
  refine h'.nameArr hf ho he (fun i r j x u h1 h2 h3 => (hr i r j x u h1 h2 (by simpa using h3)).keep (fun _ hb => hb) (fun b hb => Below.heap_alloc w _ b (h.hi.phi b hb))) (fun b hb => ?_)
  simp only [Value.ownBlock, Option.some.injEq] at hb
  subst hb
  exact ⟨fun hp => by have := h.hi.phi _ hp; omega, fun g hg => by have := (h.hi.lt g _ hg).2; omega, .inl h.fr.size⟩

/-- What a list reads as: its cells. -/
theorem rows_reads {C : Ctx} {w : World} {Φ : Nat → Prop} {H : Tag → TI} (hi : HInv C w Φ H) {v : Value} {l : LV} {e : Nat} {xs : List (List DV)} {L : List Tag} (hv : RL C w Φ H v l) (hl : l.rows? C.P = some (e, xs, L)) :
    ∃ (A : Option Addr) (c : Nat) (vals : List Value), v = .slice A xs.length c ∧ xs.length ≤ c ∧ c ≤ maxLen ∧ vals.length = xs.length * e ∧ (∀ r, r ∈ xs → r.length = e) ∧ (∀ (j : Nat) u, vals[j]? = some u → ∃ a, A = some a ∧ a.spot = none ∧ w.cell? (a.add j) = some u) ∧
      (∀ (i : Nat) r (j : Nat) x u, xs[i]? = some r → r[j]? = some x → vals[i * e + j]? = some u → RC w Φ u x) ∧ (∀ u ∈ vals, u.oneCell' = true) ∧ (xs ≠ [] → ∃ a, A = some a ∧ a.spot = none) := by
  cases hv with
  | d v x hx =>
    cases hx with
    | nil =>
      simp only [LV.rows?, Option.some.injEq, Prod.mk.injEq] at hl
      obtain ⟨rfl, rfl, rfl⟩ := hl
      exact ⟨none, 0, [], rfl, by simp, by simp, by simp, by simp, by simp, by simp, by simp, by simp⟩
    | nil' e' =>
      simp only [LV.rows?, Option.some.injEq, Prod.mk.injEq] at hl
      obtain ⟨rfl, rfl, rfl⟩ := hl
      exact ⟨none, 0, [], rfl, by simp, by simp, by simp, by simp, by simp, by simp, by simp, by simp⟩
    | list e' xs' b o c cv hc hm hb he hcv hr =>
      simp only [LV.rows?, Option.some.injEq, Prod.mk.injEq] at hl
      obtain ⟨rfl, rfl, rfl⟩ := hl
      have hvals : ∀ (j : Nat) u, ((List.range (xs'.length * e')).map cv)[j]? = some u → j < xs'.length * e' ∧ u = cv j := by
        intro j u hj
        rw [List.getElem?_map, Option.map_eq_some_iff] at hj
        obtain ⟨j', h1, rfl⟩ := hj
        obtain ⟨hlt, rfl⟩ := List.getElem?_eq_some_iff.1 h1
        simp at hlt
        simp [hlt]
      have hread : ∀ (i : Nat) r (j : Nat) x u, xs'[i]? = some r → r[j]? = some x → ((List.range (xs'.length * e')).map cv)[i * e' + j]? = some u → RC w Φ u x := fun i r j x u h1 h2 h3 => by
        rw [(hvals _ u h3).2]; exact hr i r j x h1 h2
      refine ⟨some ⟨b, o, none⟩, c, (List.range (xs'.length * e')).map cv, rfl, hc, hm, by simp, he, fun j u hj => ⟨_, rfl, rfl, ?_⟩, hread, fun u hu => ?_, fun _ => ⟨_, rfl, rfl⟩⟩
      · obtain ⟨hlt, rfl⟩ := hvals j u hj
        rw [add_spot]
        exact hcv j hlt
      · obtain ⟨j, hj⟩ := List.getElem?_of_mem hu
        obtain ⟨hlt, rfl⟩ := hvals j u hj
        have he0 : 0 < e' := Nat.pos_of_ne_zero (fun h0 => by simp [h0] at hlt)
        have hil : j / e' < xs'.length := Nat.div_lt_of_lt_mul (by rwa [Nat.mul_comm] at hlt)
        have hjm : j % e' < (xs'[j / e']).length := by rw [he _ (List.getElem_mem hil)]; exact Nat.mod_lt _ he0
        have := (hr (j / e') xs'[j / e'] (j % e') _ (by simp [hil]) (List.getElem?_eq_getElem hjm)).one
        rwa [show j / e' * e' + j % e' = j from Nat.div_add_mod' j e'] at this
    | _ => simp [LV.rows?] at hl
  | own0 g t hg =>
    simp only [LV.rows?, Option.some.injEq, Prod.mk.injEq] at hl
    obtain ⟨rfl, rfl, rfl⟩ := hl
    exact ⟨none, 0, [], rfl, by simp, by simp, by simp, by simp, by simp, by simp, by simp, by simp⟩
  | own g t xs' v hg h1 =>
    simp only [LV.rows?, Option.some.injEq, Prod.mk.injEq] at hl
    obtain ⟨rfl, rfl, rfl⟩ := hl
    have hok := hi.ok g
    rw [hg] at hok
    cases hok with
    | arr _ _ _ vals ho he hr =>
      have hall : ∀ u ∈ vals, u.oneCell' = true := by
        intro u hu
        obtain ⟨j, hj⟩ := List.getElem?_of_mem hu
        have hlt : j < xs'.length * C.P.cellsOf t := by rw [← ho.1]; exact (List.getElem?_eq_some_iff.1 hj).1
        have he0 : 0 < C.P.cellsOf t := Nat.pos_of_ne_zero (fun h0 => by simp [h0] at hlt)
        have hil : j / C.P.cellsOf t < xs'.length := Nat.div_lt_of_lt_mul (by rwa [Nat.mul_comm] at hlt)
        have hjm : j % C.P.cellsOf t < (xs'[j / C.P.cellsOf t]).length := by rw [he _ (List.getElem_mem hil)]; exact Nat.mod_lt _ he0
        exact (hr (j / C.P.cellsOf t) xs'[j / C.P.cellsOf t] (j % C.P.cellsOf t) _ u (by simp [hil]) (List.getElem?_eq_getElem hjm) (by rwa [show j / C.P.cellsOf t * C.P.cellsOf t + j % C.P.cellsOf t = j from Nat.div_add_mod' j _])).one
      rcases ho.2 with ⟨rfl, h0⟩ | ⟨b, cap, cur, rfl, hbase, hh, hnc, hcm, hcs, htake⟩
      · have : xs' = [] := List.eq_nil_of_length_eq_zero h0
        subst this
        have hv0 : vals = [] := List.eq_nil_of_length_eq_zero (by simpa using ho.1)
        subst hv0
        exact ⟨none, 0, [], rfl, by simp, by simp, by simp, by simp, by simp, by simp, by simp, by simp⟩
      · exact ⟨some ⟨b, 0, none⟩, cap, vals, rfl, hnc, hcm, ho.1, he, fun j u hj => ⟨_, rfl, rfl, ho.cells (g := b) rfl j u hj⟩, hr, hall, fun _ => ⟨_, rfl, rfl⟩⟩
  | _ => simp [LV.rows?] at hl
end Go.VS
namespace Go.VS
open Go Go.RowKit
set_option linter.unusedVariables false
set_option linter.unusedSimpArgs false

theorem tElem_run {P : Program} {t e : TypeId} (h : tElem P t = some e) : P.underlying t = some (.slice e) := by
  unfold tElem at h
  cases hu : P.underlying t with
  | none => simp [hu] at h
  | some d =>
    cases d with
    | slice e' => simp only [hu, Option.some.injEq] at h; rw [h]
    | _ => simp [hu] at h

theorem run_append_none {P : Program} (w : World) {t ty e : TypeId} (ht : P.underlying t = some (.slice e)) (h0 : P.cellsOf e ≠ 0) (A B : Option Addr) (n cap c : Nat) (hn : n ≤ cap) :
    (Builtin.append_ #[t, t] ty #[.slice A n cap, .slice B 0 c]).run P w = .ok (.slice A n cap) w := by
  have hf : (Builtin.firstCells (P.cellsOf e) 0 (.slice B 0 c)).run P w = .ok #[] w := by
    cases B with
    | none => exact run_firstCells_none w _ _ _ _
    | some b => exact run_firstCells_some w _ 0 b 0 c [] (by simp) (by simp)
  cases A <;> simp [Builtin.append_, run_underlying ht, run_sizeOf' w h0, Builtin.lenOf, hn, hf, storeCells]

theorem append_sound {S : Sys} {en : Entry} {Φ : Nat → Prop} {H : Tag → TI} {σ : Env} {a : Act} {w : World} {mutOk : Bool} {d : Nat} {t ty e : TypeId} {va vb : Value} {aa ab : AV} {k : AV → Env → Prop} (inv : Inv S en Φ H σ a w) (hf : Fresh H d)
    (ht : tElem S.C.P t = some e) (hz : (tZero S.C.P e).isSome) (hzl : (tZero S.C.P e).map List.length = some (S.C.P.cellsOf e)) (ha : RA S.C w Φ H va aa) (hb : RA S.C w Φ H vb ab) (h : wAppend S mutOk d e aa ab σ k) :
    ∃ v' w' Φ' H' σ' av, (Builtin.append_ #[t, t] ty #[va, vb]).run S.C.P w = .ok v' w' ∧ RA S.C w' Φ' H' v' av ∧ k av σ' ∧ Inv S en Φ' H' σ' a w' ∧ Pres (some d) H H' := by
  have hu := tElem_run ht
  unfold wAppend at h
  cases hb with
  | any v => simp [LV.rows?] at h
  | agg => exact h.elim
  | tup => exact h.elim
  | one vb lb hb =>
  cases hrw : lb.rows? S.C.P with
  | none => simp [hrw] at h
  | some p =>
  obtain ⟨e', ys, L⟩ := p
  simp only [hrw] at h
  obtain ⟨hee, h0, hby, h⟩ := h
  obtain ⟨B, c, news, rfl, hyc, hcm, hnl, hrl, hnews, hnr, hone, hB⟩ := rows_reads inv.hi hb hrw
  obtain ⟨i, hi, his⟩ := cellsOf_info h0
  obtain ⟨zs, hzs⟩ := Option.isSome_iff_exists.1 hz
  obtain ⟨i', z, hi', hzz, hzc⟩ := tZero_info hzs
  rw [hi] at hi'
  simp only [Option.some.injEq] at hi'
  subst hi'
  have hzsz : z.cells.size = S.C.P.cellsOf e := by
    rw [hzs] at hzl
    simp only [Option.map_some, Option.some.injEq] at hzl
    rw [← hzl, ← hzc]; simp
  have hbytes : i.bytes ≤ 65536 := by
    have : S.C.P.bytesOf e = i.bytes := by simp [Program.bytesOf, hi]
    omega
  have hpos : 0 < S.C.P.cellsOf e := Nat.pos_of_ne_zero h0
  have hlen : news.length = ys.length * S.C.P.cellsOf e := by
    rcases hee with rfl | rfl
    · simpa using hnl
    · exact hnl
  have hrows : ∀ r, r ∈ ys → r.length = S.C.P.cellsOf e := by
    rcases hee with rfl | rfl
    · simp
    · exact hrl
  have hread : ∀ (i : Nat) r (j : Nat) x u, ys[i]? = some r → r[j]? = some x → news[i * S.C.P.cellsOf e + j]? = some u → RC w Φ u x := by
    rcases hee with rfl | rfl
    · intro i r j x u h1; simp at h1
    · exact hnr
  have hmul : ∀ m : Nat, m ≤ maxMade → m * i.bytes ≤ 140737488355328 := fun m hm => by
    have := Nat.mul_le_mul hm hbytes
    simpa [maxMade] using this
  have hml : ∀ m : Nat, m ≤ maxMade → m ≤ maxLen := fun m hm => by simp only [maxMade] at hm; simp only [maxLen]; omega
  by_cases hys : ys = []
  · -- nothing is appended
    subst hys
    cases ha with
    | any v => exact h.elim
    | agg => exact h.elim
    | tup => exact h.elim
    | one va la ha =>
    cases ha with
    | own g t' xs va hg h1 =>
      obtain ⟨rfl, hm, h⟩ := h
      cases hv : g.isVar with
      | true => rw [inv.hi.novar g hv] at hg; cases hg
      | false =>
        simp only [hv, Bool.false_eq_true, if_false, List.append_nil] at h
        obtain ⟨hmu, h⟩ := h
        have hok := inv.hi.ok g
        rw [hg] at hok
        cases hok with
        | arr _ _ _ vals ho he hr =>
        have hsl : ∃ A cap, va = .slice A xs.length cap ∧ xs.length ≤ cap := by
          rcases ho.2 with ⟨rfl, h0⟩ | ⟨b, cap, cur, rfl, _, _, hnc, _⟩
          · exact ⟨none, 0, by rw [h0], by omega⟩
          · exact ⟨_, cap, rfl, hnc⟩
        obtain ⟨A, cap, rfl, hnc⟩ := hsl
        have inv1 := inv.drop hv
        have hfr : Fresh (fun h' => if h' = g then .none else (H h').up (ufun (single g .dead))) d := fun τ hτ => by
          by_cases e1 : Tag.loc d τ = g
          · simp [e1]
          · simp only [e1, if_false, hf τ hτ]; rfl
        have hb' := inv1.nameArr (v := .slice A xs.length cap) (t := t') (xs := xs) hfr ho he hr (fun b hb => by
          have hbg : b ∈ (H g).foot := by rw [hg]; simp [TI.foot, hb]
          refine ⟨inv.hi.nophi g b hbg, fun g' hg' => ?_, inv.fr.foot g b hbg⟩
          by_cases e1 : g' = g
          · simp [e1, TI.foot] at hg'
          · simp only [e1, if_false, TI.foot_up] at hg'
            exact e1 (inv.hi.disj g' g b hg' hbg))
        refine ⟨_, w, Φ, _, _, _, run_append_none w hu h0 A B xs.length cap c hnc, hb'.2, h, hb'.1, fun d' τ hne h0 => ?_⟩
        rw [bindT_ne _ _ _ (fun e1 => hne (by injection e1 with e1 e2; rw [e1]))]
        by_cases e1 : Tag.loc d' τ = g
        · simp [e1]
        · simp only [e1, if_false, h0]; rfl
    | own0 g t' hgv =>
      obtain ⟨rfl, hm, h⟩ := h
      simp only [hgv, if_true] at h
      exact ⟨_, w, Φ, H, σ, _, run_append_none w hu h0 none B 0 0 c (by omega), .one _ _ (.own0 (.var d) t' rfl), h.1 (by trivial), inv, Pres.refl _ _⟩
    | d va xa ha =>
      cases ha with
      | nil =>
        obtain ⟨hm, h, _⟩ := h
        exact ⟨_, w, Φ, H, σ, _, run_append_none w hu h0 none B 0 0 c (by omega), .one _ _ (.own0 (.var d) e rfl), h rfl, inv, Pres.refl _ _⟩
      | _ => exact h.elim
    | _ => exact h.elim
  · obtain ⟨bb, hBb, hspot⟩ := hB hys
    subst hBb
    have hnews' : ∀ (j : Nat) u, news[j]? = some u → w.cell? (bb.add j) = some u := fun j u hj => by
      obtain ⟨a', ha', _, hc⟩ := hnews j u hj
      simp only [Option.some.injEq] at ha'
      subst ha'
      exact hc
    have hylen : 0 < ys.length := List.length_pos_iff.2 hys
    have fresh : ∀ (A : Option Addr) (w' : World), (∃ vals, (Builtin.append_ #[t, t] ty #[.slice A 0 0, .slice (some bb) ys.length c]).run S.C.P w = .ok (.slice (some ⟨w.heap.size, 0, none⟩) ys.length (grownCap w ys.length 0 e)) w' ∧
        w' = w.drew.alloc (.cells vals e) ∧ vals.size = grownCap w ys.length 0 e * S.C.P.cellsOf e ∧ vals.toList.take (ys.length * S.C.P.cellsOf e) = news) → ys.length ≤ maxMade → (ys ≠ [] → k (.one (.own (.loc d .nil) e ys)) σ) →
        ∃ v' w' Φ' H' σ' av, (Builtin.append_ #[t, t] ty #[.slice A 0 0, .slice (some bb) ys.length c]).run S.C.P w = .ok v' w' ∧ RA S.C w' Φ' H' v' av ∧ k av σ' ∧ Inv S en Φ' H' σ' a w' ∧ Pres (some d) H H' := by
      intro A w' ⟨vals, hrun, hw', hvs, hvt⟩ hm hk
      have hgr : w.grownBy w' none := by rw [hw']; exact ⟨rfl, rfl, rfl, by simp, fun k hk _ => Below.heap_alloc w.drew _ k hk⟩
      have inv1 := inv.grow none (fun r hr => by cases hr) hgr
      have hge := grownCap_ge w ys.length 0 e
      have hgm := grownCap_le_maxLen w ys.length 0 e (hml _ hm)
      have ho : w'.ownsRow S.C.NG e (S.C.P.cellsOf e) (.slice (some ⟨w.heap.size, 0, none⟩) ys.length (grownCap w ys.length 0 e)) ys.length news :=
        ⟨hlen, .inr ⟨w.heap.size, _, vals, rfl, S.C.sizeG w inv.G, by rw [hw']; exact heap_alloc_new w.drew _, hge, hgm, hvs, hvt⟩⟩
      have hb' := inv1.nameArr (d := d) hf ho hrows (fun i r j x u h1 h2 h3 => (hread i r j x u h1 h2 h3).keep (fun _ hb => hb) (fun b hb => hgr.block b (inv.hi.phi b hb) (by simp))) (fun b hb => by
        simp only [Value.ownBlock, Option.some.injEq] at hb
        subst hb
        exact ⟨fun hp => by have := inv.hi.phi _ hp; omega, fun g hg => by have := (inv.hi.lt g _ hg).2; omega, .inl inv.fr.size⟩)
      exact ⟨_, w', Φ, _, σ, _, hrun, hb'.2, hk hys, hb'.1, Pres.bindT d .nil H _⟩
    have grown0 : ∀ (b : Addr), ys.length ≤ maxMade → ∃ vals, (Builtin.append_ #[t, t] ty #[.slice (some b) 0 0, .slice (some bb) ys.length c]).run S.C.P w = .ok (.slice (some ⟨w.heap.size, 0, none⟩) ys.length (grownCap w ys.length 0 e)) (w.drew.alloc (.cells vals e)) ∧
        vals.size = grownCap w ys.length 0 e * S.C.P.cellsOf e ∧ vals.toList.take (ys.length * S.C.P.cellsOf e) = news := by
      intro b hm
      have hr := run_append_grow (P := S.C.P) w t ty e i z hu hi hzz b 0 0 [] (by simp) (by simp) bb ys.length c news (by rw [his]; exact hlen) hnews' (by omega) (by have := hml _ hm; simp only [maxLen] at this; omega)
        (growslice_fits (by omega) (by simpa using hmul _ hm))
      simp only [Nat.zero_add] at hr
      refine ⟨_, hr, ?_, ?_⟩
      · have hge := grownCap_ge w ys.length 0 e
        simp only [Array.size_append, List.size_toArray, List.length_nil, Nat.zero_add, size_zeroCells, hzsz, hlen, ← Nat.add_mul]
        congr 1
        omega
      · simp only [Array.toList_append, List.nil_append]
        rw [← hlen]
        exact List.take_left
    have grown1 : ys.length ≤ maxMade → ∃ vals, (Builtin.append_ #[t, t] ty #[.slice none 0 0, .slice (some bb) ys.length c]).run S.C.P w = .ok (.slice (some ⟨w.heap.size, 0, none⟩) ys.length (grownCap w ys.length 0 e)) (w.drew.alloc (.cells vals e)) ∧
        vals.size = grownCap w ys.length 0 e * S.C.P.cellsOf e ∧ vals.toList.take (ys.length * S.C.P.cellsOf e) = news := by
      intro hm
      have hr := run_append_nil (P := S.C.P) w t ty e i z hu hi hzz bb ys.length c news (by rw [his]; exact hlen) hnews' hylen (by have := hml _ hm; simp only [maxLen] at this; omega) (by have := hmul _ hm; omega)
      refine ⟨_, hr, ?_, ?_⟩
      · have hge := grownCap_ge w ys.length 0 e
        simp only [Array.size_append, List.size_toArray, size_zeroCells, hzsz, hlen, ← Nat.add_mul]
        congr 1
        omega
      · simp only [Array.toList_append]
        rw [← hlen]
        exact List.take_left
    cases ha with
    | any v => exact h.elim
    | agg => exact h.elim
    | tup => exact h.elim
    | one va la ha =>
    cases ha with
    | own0 g t' hgv =>
      obtain ⟨rfl, hm, h⟩ := h
      simp only [hgv, if_true] at h
      have hm' : ys.length ≤ maxMade := by simpa using hm
      obtain ⟨vals, h1, h2, h3⟩ := grown1 hm'
      exact fresh none _ ⟨vals, h1, rfl, h2, h3⟩ hm' h.2
    | d va xa ha =>
      cases ha with
      | nil =>
        obtain ⟨hm, _, h⟩ := h
        obtain ⟨vals, h1, h2, h3⟩ := grown1 hm
        exact fresh none _ ⟨vals, h1, rfl, h2, h3⟩ hm h
      | _ => exact h.elim
    | own g t' xs va hg h1 =>
      obtain ⟨rfl, hm, h⟩ := h
      cases hv : g.isVar with
      | true => rw [inv.hi.novar g hv] at hg; cases hg
      | false =>
        simp only [hv, Bool.false_eq_true, if_false] at h
        obtain ⟨hmu, h⟩ := h
        have hok := inv.hi.ok g
        rw [hg] at hok
        cases hok with
        | arr _ _ _ vals ho he hr =>
        obtain ⟨v', w', hrun, ho', hgr, _, hat⟩ := run_append_own_at (P := S.C.P) w S.C.NG t ty t' i z (S.C.P.cellsOf t') i.bytes hu hi hzz his rfl hzsz hpos va xs.length vals ho bb ys.length c news hlen hnews' hone (hml _ hm) (hmul _ hm) (S.C.sizeG w inv.G)
        have inv1 := inv.drop hv
        have hfr : Fresh (fun h' => if h' = g then .none else (H h').up (ufun (single g .dead))) d := fun τ hτ => by
          by_cases e1 : Tag.loc d τ = g
          · simp [e1]
          · simp only [e1, if_false, hf τ hτ]; rfl
        have hrow : ∀ r, va.ownBlock = some r → ¬ Φ r ∧ (∀ g', r ∉ ((fun h' => if h' = g then TI.none else (H h').up (ufun (single g .dead))) g').foot) ∧ S.C.NG ≤ r ∧ (en.w.heap.size ≤ r ∨ ∃ h, r ∈ (en.H h).foot) := fun r hr => by
          have hbg : r ∈ (H g).foot := by rw [hg]; simp [TI.foot, hr]
          refine ⟨inv.hi.nophi g r hbg, fun g' hg' => ?_, (inv.hi.lt g r hbg).1, inv.fr.foot g r hbg⟩
          by_cases e1 : g' = g
          · simp [e1, TI.foot] at hg'
          · simp only [e1, if_false, TI.foot_up] at hg'
            exact e1 (inv.hi.disj g' g r hg' hbg)
        have inv2 := inv1.grow va.ownBlock hrow hgr
        have hphi : ∀ b, Φ b → w'.heap[b]? = w.heap[b]? := fun b hb => hgr.block b (inv.hi.phi b hb) (fun e1 => (hrow b e1.symm).1 hb)
        have hb' := inv2.nameArr (d := d) (v := v') (t := t') (xs := xs ++ ys) (vals := vals ++ news) hfr (by rw [List.length_append]; exact ho') (fun r hr' => by
            rcases List.mem_append.1 hr' with hr' | hr'
            · exact he r hr'
            · exact hrows r hr')
          (fun i' r j x u h1 h2 h3 => by
            have hvl : vals.length = xs.length * S.C.P.cellsOf t' := ho.1
            by_cases hlt : i' < xs.length
            · rw [List.getElem?_append_left hlt] at h1
              have hj : j < S.C.P.cellsOf t' := by rw [← he r (List.mem_of_getElem? h1)]; exact (List.getElem?_eq_some_iff.1 h2).1
              rw [List.getElem?_append_left (by rw [hvl]; exact idx_lt hlt hj)] at h3
              exact (hr i' r j x u h1 h2 h3).keep (fun _ hb => hb) hphi
            · have hge : xs.length ≤ i' := by omega
              rw [List.getElem?_append_right hge] at h1
              have hle : xs.length * S.C.P.cellsOf t' ≤ i' * S.C.P.cellsOf t' := Nat.mul_le_mul_right _ hge
              rw [List.getElem?_append_right (by omega), hvl, show i' * S.C.P.cellsOf t' + j - xs.length * S.C.P.cellsOf t' = (i' - xs.length) * S.C.P.cellsOf t' + j by rw [Nat.sub_mul]; omega] at h3
              exact (hread (i' - xs.length) r j x u h1 h2 h3).keep (fun _ hb => hb) hphi)
          (fun b hb => by
            rcases Nat.lt_or_ge b w.heap.size with hlt | hge
            · by_cases hbr : some b = va.ownBlock
              · exact ⟨(hrow b hbr.symm).1, (hrow b hbr.symm).2.1, (hrow b hbr.symm).2.2.2⟩
              · exact absurd hb (by
                  rcases hat with hx | hx
                  · rw [hx]; exact fun hh => hbr hh.symm
                  · rw [hx]; intro hh; injection hh with hh; omega)
            · exact ⟨fun hp => by have := inv.hi.phi b hp; omega, fun g' hg' => by have := (inv1.hi.lt g' b hg').2; omega, .inl (Nat.le_trans inv.fr.size hge)⟩)
        refine ⟨v', w', Φ, _, _, _, hrun, hb'.2, h, hb'.1, fun d' τ hne h0 => ?_⟩
        rw [bindT_ne _ _ _ (fun e1 => hne (by injection e1 with e1 e2; rw [e1]))]
        by_cases e1 : Tag.loc d' τ = g
        · simp [e1]
        · simp only [e1, if_false, h0]; rfl
    | _ => exact h.elim
end Go.VS
namespace Go.VS
open Go Go.RowKit
set_option linter.unusedVariables false
set_option linter.unusedSimpArgs false

/-- An operation goes through: what comes behind it. -/
def Step (S : Sys) (e : Entry) (H : Tag → TI) (k : Env → Prop) (o : Oper) (a : Act) (w : World) : Prop :=
  ∃ v w' Φ' H' σ', ((execOp a.eval o).run S.C.P w = .ok (.value v) w' ∨ ((execOp a.eval o).run S.C.P w = .ok .skip w' ∧ v = undef)) ∧ k σ' ∧ Inv S e Φ' H' σ' (a.put o.dst v) w' ∧ Pres o.dst H H'

section
variable {S : Sys} {e : Entry} {Φ : Nat → Prop} {H : Tag → TI} {σ : Env} {a : Act} {w : World} {k : Env → Prop} {o : Oper}

theorem Step.same {v : Value} {x : AV} (hr : (execOp a.eval o).run S.C.P w = .ok (.value v) w) (inv : Inv S e Φ H σ a w) (hv : RA S.C w Φ H v x) (h : wPut S o.dst x σ k) : Step S e H k o a w := by
  obtain ⟨σ', hk, hi⟩ := inv.wPut h hv
  exact ⟨v, w, Φ, H, σ', .inl hr, hk, hi, Pres.refl _ _⟩

theorem Step.new {v : Value} {x : AV} {w' : World} {Φ' : Nat → Prop} {H' : Tag → TI} {σ1 : Env} (hr : (execOp a.eval o).run S.C.P w = .ok (.value v) w') (inv : Inv S e Φ' H' σ1 a w') (hv : RA S.C w' Φ' H' v x) (hp : Pres o.dst H H') (h : wPut S o.dst x σ1 k) : Step S e H k o a w := by
  obtain ⟨σ', hk, hi⟩ := inv.wPut h hv
  exact ⟨v, w', Φ', H', σ', .inl hr, hk, hi, hp⟩

theorem RA.bool {v : Value} {b : Bool} (h : RA S.C w Φ H v (.one (.d (.bool b)))) : v = .bool b := by
  cases h with
  | one v l h => cases h with
    | d v x h => cases h; rfl
theorem RA.int {v : Value} {kd : IntKind} {n : Int} (h : RA S.C w Φ H v (.one (.d (.int kd n)))) : v = .int kd n := by
  cases h with
  | one v l h => cases h with
    | d v x h => cases h; rfl
theorem RA.str {v : Value} {s : ByteArray} (h : RA S.C w Φ H v (.one (.d (.str s)))) : v = .string s := by
  cases h with
  | one v l h => cases h with
    | d v x h => cases h; rfl
theorem RA.d {v : Value} {x : DV} (h : RC w Φ v x) : RA S.C w Φ H v (.one (.d x)) := .one _ _ (.d _ _ h)

theorem wBool_inv {x : AV} {T : Bool → Prop} (h : wBool x T) : ∃ b, x = .one (.d (.bool b)) ∧ T b := by
  unfold wBool at h
  split at h
  · exact ⟨_, rfl, h⟩
  · exact h.elim

theorem pick_sound {b : Bool} {va vb : Value} {x y : AV} (hx : RA S.C w Φ H va x) (hy : RA S.C w Φ H vb y) : RA S.C w Φ H (if b then va else vb) (pickA b x y) := by
  have key : ∀ (z : AV) p, z.bool? = some p → z = .one (.d (.bool p)) := by
    intro z p hz
    unfold AV.bool? at hz
    split at hz
    · injection hz with hz; rw [hz]
    · cases hz
  unfold pickA
  cases hp : x.bool? with
  | none => simp only []; cases b <;> simp <;> assumption
  | some p =>
    cases hq : y.bool? with
    | none => simp only []; cases b <;> simp <;> assumption
    | some q =>
      simp only []
      have h1 := key x p hp
      have h2 := key y q hq
      subst h1; subst h2
      rw [hx.bool, hy.bool]
      cases b <;> exact .one _ _ (.d _ _ (.bool _))

theorem index_run {P : Program} {t : TypeId} {s : ByteArray} {kd : IntKind} {n : Int} (w : World) (hu : P.underlying t = some .string) (h0 : 0 ≤ n) (h1 : n < s.size) :
    (Instr.index t (.string s) (.int kd n)).run P w = .ok (.int .u8 (byteAt s n)) w := by
  have hlt : n.toNat < s.size := by omega
  have hb : ((s[n.toNat]'hlt).toNat : Int) = byteAt s n := by
    unfold byteAt
    have hl : n.toNat < s.data.toList.length := by rw [Array.length_toList]; exact hlt
    simp only [List.getD_eq_getElem?_getD, List.getElem?_eq_getElem hl, Option.getD_some, Array.getElem_toList]
    rfl
  unfold Instr.index
  simp only [asIntOf, Sem.run_bind, Sem.run_pure, Result.andThen_ok, run_underlying hu, if_pos h0]
  rw [show s[n.toNat]? = some (s[n.toNat]'hlt) from getElem?_pos s n.toNat hlt]
  simp only [Sem.run_pure, hb]

theorem part_run {P : Program} {w : World} {t : TypeId} {ag : Bool} {cs : Array Value} {off : Nat} (hu : tAgg P t = some ag) (h0 : P.cellsOf t ≠ 0) (hl : off < cs.size) :
    (part t cs off).run P w = .ok (if ag then .agg (cs.extract off (off + P.cellsOf t)) else cs[off]) w := by
  unfold part
  simp only [Sem.run_bind, isAgg_run hu, Result.andThen_ok]
  cases ag
  · simp [hl]
  · simp [run_sizeOf' w h0]

theorem field_run {P : Program} {w : World} {t ft : TypeId} {f off : Nat} {cs : Array Value} (ho : tOff P t f = some (off, ft)) : (Instr.field t (.agg cs) f).run P w = (part ft cs off).run P w := by
  unfold tOff at ho
  cases hu : P.underlying t with
  | none => simp [hu] at ho
  | some d =>
    cases d with
    | struct fs =>
      simp only [hu] at ho
      cases hf : fs[f]? with
      | none => simp [hf] at ho
      | some fd =>
        simp only [hf, Option.map_some, Option.some.injEq, Prod.mk.injEq] at ho
        obtain ⟨rfl, rfl⟩ := ho
        simp [Instr.field, run_underlying hu, hf, asAgg]
    | _ => simp [hu] at ho

theorem wPart_agg {t : TypeId} {ls : List LV} {off : Nat} {T : AV → Prop} {cs : Array Value} (hn : cs.size = ls.length) (hr : ∀ (i : Nat) v l, cs[i]? = some v → ls[i]? = some l → RL S.C w Φ H v l) (h : wPart S t ls off T) :
    ∃ v av, (part t cs off).run S.C.P w = .ok v w ∧ RA S.C w Φ H v av ∧ T av := by
  obtain ⟨h0, hl, hk⟩ := h
  have hoff : off < cs.size := by omega
  cases hag : tAgg S.C.P t with
  | none => simp [hag] at hk
  | some ag =>
    simp only [hag] at hk
    cases ag
    · have hlt : off < ls.length := by omega
      simp only [List.getElem?_eq_getElem hlt] at hk
      exact ⟨_, _, part_run hag h0 hoff, .one _ _ (hr off _ _ (by simp [hoff]) (by simp [hlt])), hk⟩
    · refine ⟨_, _, part_run hag h0 hoff, .agg _ _ (by simp; omega) (fun i v l h1 h2 => ?_), hk⟩
      rw [List.getElem?_take] at h2
      split at h2
      · rename_i hi
        rw [List.getElem?_drop] at h2
        rw [Array.getElem?_extract] at h1
        split at h1
        · exact hr _ v l h1 h2
        · cases h1
      · cases h2

end
end Go.VS
namespace Go.VS
open Go Go.RowKit
set_option linter.unusedVariables false
set_option linter.unusedSimpArgs false

section
variable {S : Sys} {e : Entry} {Φ : Nat → Prop} {H : Tag → TI} {σ : Env} {a : Act} {w : World}

theorem set_part {cells : Array Value} {ls ms : List LV} {v : Value} {o : Nat} (hn : cells.size = ls.length) (hl : ∀ (j : Nat) l u, ls[j]? = some l → cells[j]? = some u → RL S.C w Φ H u l)
    (hv : v.cells.size = ms.length) (hm : ∀ (j : Nat) l u, ms[j]? = some l → v.cells[j]? = some u → RL S.C w Φ H u l) (ho : o + ms.length ≤ ls.length) :
    (v.cells.zipIdx.foldl (fun cs (x : Value × Nat) => cs.setIfInBounds (o + x.2) x.1) cells).size = (repl ls o ms).length ∧
      ∀ (j : Nat) l u, (repl ls o ms)[j]? = some l → (v.cells.zipIdx.foldl (fun cs (x : Value × Nat) => cs.setIfInBounds (o + x.2) x.1) cells)[j]? = some u → RL S.C w Φ H u l := by
  obtain ⟨h1, h2⟩ := Go.Great.foldl_set o v.cells.toList 0 cells
  have heq : v.cells.zipIdx.foldl (fun cs (x : Value × Nat) => cs.setIfInBounds (o + x.2) x.1) cells = (v.cells.toList.zipIdx 0).foldl (fun cs (x : Value × Nat) => cs.setIfInBounds (o + x.2) x.1) cells := by
    rw [← Array.foldl_toList, Array.toList_zipIdx]
  rw [heq]
  refine ⟨by rw [h1, length_repl _ _ _ ho, hn], fun j l u hj hu => ?_⟩
  rw [h2 j] at hu
  rw [repl_get _ _ _ ho] at hj
  simp only [Nat.add_zero, Array.length_toList, hv] at hu
  by_cases h3 : j < o
  · rw [if_pos h3] at hj
    rw [if_neg (by omega)] at hu
    exact hl j l u hj hu
  · by_cases h4 : j < o + ms.length
    · rw [if_neg h3, if_pos h4] at hj
      rw [if_pos (by omega)] at hu
      exact hm (j - o) l u hj (by simpa using hu)
    · rw [if_neg h3, if_neg h4] at hj
      rw [if_neg (by omega)] at hu
      exact hl j l u hj hu

theorem fill_parts (inv : Inv S e Φ H σ a w) {t : TypeId} {place : Nat → Option (Nat × Nat)} (hp : ∀ i o ft, tOff S.C.P t i = some (o, ft) → place i = some (o, S.C.P.cellsOf ft)) :
    ∀ (parts : List (Nat × Operand)) (ls ls' : List LV) (cells : Array Value), cells.size = ls.length → (∀ (j : Nat) l u, ls[j]? = some l → cells[j]? = some u → RL S.C w Φ H u l) → wParts S t (σ.eval S.n) parts ls = some ls' →
      ∃ r, Instr.fill place cells (parts.map fun (i, x) => (i, a.eval x)) = some r ∧ r.size = ls'.length ∧ ∀ (j : Nat) l u, ls'[j]? = some l → r[j]? = some u → RL S.C w Φ H u l
  | [], ls, ls', cells, hn, hl, h => by
    simp only [wParts, Option.some.injEq] at h
    subst h
    exact ⟨cells, rfl, hn, hl⟩
  | (i, x) :: r, ls, ls', cells, hn, hl, h => by
    simp only [wParts] at h
    cases ho : tOff S.C.P t i with
    | none => simp [ho] at h
    | some p =>
    obtain ⟨o, ft⟩ := p
    cases hm : (σ.eval S.n x).leaves with
    | none => simp [ho, hm] at h
    | some ms =>
    simp only [ho, hm] at h
    split at h
    · rename_i hc
      obtain ⟨hv, hml⟩ := leaves_cells (inv.eval x) hm
      obtain ⟨g1, g2⟩ := set_part hn hl hv hml hc.2
      obtain ⟨res, hr, hs⟩ := fill_parts inv hp r _ ls' _ g1 g2 h
      refine ⟨res, ?_, hs⟩
      simp only [List.map_cons]
      unfold Instr.fill
      simp only [hp i o ft ho]
      rw [if_neg (by simp; omega)]
      exact hr
    · cases h

theorem places_all {P : Program} {fs : List Field} (h : (fs.all fun f => P.cellsOf f.type != 0) = true) :
    fs.mapM (fun f => (P.info? f.type).map fun i => (f.offset, i.size)) = some (fs.map fun f => (f.offset, P.cellsOf f.type)) := by
  induction fs with
  | nil => simp
  | cons f fs ih =>
    simp only [List.all_cons, Bool.and_eq_true, bne_iff_ne] at h
    obtain ⟨i, hi, hs⟩ := cellsOf_info h.1
    simp [List.mapM_cons, hi, ih h.2, hs]

theorem build_sound (inv : Inv S e Φ H σ a w) {t : TypeId} {parts : Array (Nat × Operand)} {ds : List DV} {ls : List LV} (ht : tPlaces S.C.P t = true) (hz : (tZero S.C.P t).bind zeroL = some ds) (h : wParts S t (σ.eval S.n) parts.toList (ds.map .d) = some ls) :
    ∃ cs, (Instr.build t (parts.map fun (i, x) => (i, a.eval x))).run S.C.P w = .ok (.agg cs) w ∧ RA S.C w Φ H (.agg cs) (.agg ls) := by
  cases hzt : tZero S.C.P t with
  | none => simp [hzt] at hz
  | some zs =>
  rw [hzt] at hz
  simp only [Option.bind_some] at hz
  obtain ⟨i, z, hi, hzz, hzc⟩ := tZero_info hzt
  obtain ⟨hl1, hl2⟩ := zero_cells (C := S.C) (H := H) (w := w) (Φ := Φ) hz
  unfold tPlaces at ht
  cases hu : S.C.P.underlying t with
  | none => simp [hu] at ht
  | some d =>
  cases d with
  | struct fs =>
    simp only [hu] at ht
    have hpl := places_all ht
    have hp : ∀ i o ft, tOff S.C.P t i = some (o, ft) → (fun x => (fs.toList.map fun f => (f.offset, S.C.P.cellsOf f.type)).toArray[x]?) i = some (o, S.C.P.cellsOf ft) := by
      intro i o ft ho
      simp only [tOff, hu, Option.map_eq_some_iff, Prod.mk.injEq] at ho
      obtain ⟨f, hf, rfl, rfl⟩ := ho
      simp [hf]
    obtain ⟨r, hr, hs, hrl⟩ := fill_parts inv hp parts.toList (ds.map .d) ls z.cells (by simp [hl1, ← hzc]) (fun j l u h1 h2 => by
      rw [List.getElem?_map, Option.map_eq_some_iff] at h1
      obtain ⟨x, hx, rfl⟩ := h1
      exact .d _ _ (hl2 j x u hx (by rw [← hzc]; simpa using h2))) h
    refine ⟨r, run_build w t _ r ?_, .agg ls r hs (fun i v l h1 h2 => hrl i l v h2 h1)⟩
    simp only [Program.built, hi, hu, hzz, hpl, Array.toList_map]
    exact hr
  | _ => simp [hu] at ht

theorem box_reads (hi : HInv S.C w Φ H) {g : Tag} {b : Nat} {c : List LV} {ds : List DV} (hg : H g = .box b c) (hd : LV.flats? c = some ds) {Φ' : Nat → Prop} (hΦ : ∀ b, Φ b → Φ' b) (hb : Φ' b) : RC w Φ' (.pointer (some ⟨b, 0, none⟩)) (.ptr ds) := by
  have hok := hi.ok g
  rw [hg] at hok
  cases hok with
  | box _ _ cur ty hh hcn hr =>
  obtain ⟨f1, f2⟩ := flats_cells (C := S.C) (w := w) (Φ := Φ) (H := H) (cs := cur) hcn (fun j l u h1 h2 => hr j l u h1 h2) hd
  refine .ptr ds b 0 (fun j => cur.getD j undef) hb (fun j hj => ?_) (fun j x hj => ?_)
  · have hlt : j < cur.size := by omega
    simp [World.cell?, hh, hlt]
  · have hlt : j < ds.length := (List.getElem?_eq_some_iff.1 hj).1
    have hlt' : j < cur.size := by omega
    refine (f2 j x _ hj ?_).keep hΦ (fun _ _ => rfl)
    simp [hlt']

theorem dptr_reads {c : List DV} {v : Value} (h : RL S.C w Φ H v (.dptr c 0)) : RC w Φ v (.ptr c) := by
  cases h with
  | dptr c off b o cv hb hv hr => exact .ptr c b o cv hb hv hr

theorem caps_reads (hi : HInv S.C w Φ H) {Φ' : Nat → Prop} (hΦ : ∀ b, Φ b → Φ' b) : ∀ (caps : List LV) (ds : List DV) (T : List Tag) (vs : List Value), LV.snapCaps caps = some (ds, T) → vs.length = caps.length →
    (∀ (i : Nat) v l, vs[i]? = some v → caps[i]? = some l → RL S.C w Φ H v l) → (∀ g, g ∈ T → ∀ b, b ∈ (H g).foot → Φ' b) → ds.length = vs.length ∧ ∀ (i : Nat) v x, vs[i]? = some v → ds[i]? = some x → RC w Φ' v x
  | [], ds, T, vs, h, hn, hl, hT => by
    simp only [LV.snapCaps, Option.some.injEq, Prod.mk.injEq] at h
    obtain ⟨rfl, rfl⟩ := h
    exact ⟨by simpa using hn.symm, fun i v x _ h2 => by simp at h2⟩
  | l :: r, ds, T, [], h, hn, hl, hT => by simp at hn
  | l :: r, ds, T, v :: vs, h, hn, hl, hT => by
    have hlr : ∀ (i : Nat) v l, vs[i]? = some v → r[i]? = some l → RL S.C w Φ H v l := fun i v l h1 h2 => hl (i + 1) v l (by simpa using h1) (by simpa using h2)
    have hn' : vs.length = r.length := by simpa using hn
    have hl0 := hl 0 v l (by simp) (by simp)
    have key : ∀ (x : DV) (es : List DV), RC w Φ' v x → (es.length = vs.length ∧ ∀ (i : Nat) v x, vs[i]? = some v → es[i]? = some x → RC w Φ' v x) → (x :: es).length = (v :: vs).length ∧ ∀ (i : Nat) v' x', (v :: vs)[i]? = some v' → (x :: es)[i]? = some x' → RC w Φ' v' x' := by
      intro x es hx ⟨e1, e2⟩
      refine ⟨by simp [e1], fun i v' x' h1 h2 => ?_⟩
      cases i with
      | zero => simp at h1 h2; subst h1; subst h2; exact hx
      | succ i => exact e2 i v' x' (by simpa using h1) (by simpa using h2)
    unfold LV.snapCaps at h
    split at h
    · rename_i heq; cases heq
    · rename_i x r' heq
      simp only [List.cons.injEq] at heq
      obtain ⟨rfl, rfl⟩ := heq
      split at h
      · rename_i es T' hs
        simp only [Option.some.injEq, Prod.mk.injEq] at h
        obtain ⟨rfl, rfl⟩ := h
        exact key _ _ (hl0.flat.keep hΦ (fun _ _ => rfl)) (caps_reads hi hΦ _ _ _ vs hs hn' hlr hT)
      · cases h
    · rename_i g c r' heq
      simp only [List.cons.injEq] at heq
      obtain ⟨rfl, rfl⟩ := heq
      split at h
      · rename_i dd es T' hf hs
        simp only [Option.some.injEq, Prod.mk.injEq] at h
        obtain ⟨rfl, rfl⟩ := h
        cases hl0 with
        | ptr _ _ _ b hg =>
          exact key _ _ (box_reads hi hg hf hΦ (hT g (by simp) b (by rw [hg]; simp [TI.foot]))) (caps_reads hi hΦ _ _ _ vs hs hn' hlr (fun g' hg' => hT g' (by simp [hg'])))
      · cases h
    · rename_i c r' heq
      simp only [List.cons.injEq] at heq
      obtain ⟨rfl, rfl⟩ := heq
      split at h
      · rename_i es T' hs
        simp only [Option.some.injEq, Prod.mk.injEq] at h
        obtain ⟨rfl, rfl⟩ := h
        exact key _ _ ((dptr_reads hl0).keep hΦ (fun _ _ => rfl)) (caps_reads hi hΦ _ _ _ vs hs hn' hlr hT)
      · cases h
    · cases h

theorem snap_reads (hi : HInv S.C w Φ H) {Φ' : Nat → Prop} (hΦ : ∀ b, Φ b → Φ' b) {l : LV} {x : DV} {T : List Tag} {v : Value} (h : l.snap S.C.P = some (x, T)) (hv : RL S.C w Φ H v l) (hT : ∀ g, g ∈ T → ∀ b, b ∈ (H g).foot → Φ' b) : RC w Φ' v x := by
  unfold LV.snap at h
  split at h
  · simp only [Option.some.injEq, Prod.mk.injEq] at h
    obtain ⟨rfl, rfl⟩ := h
    exact hv.flat.keep hΦ (fun _ _ => rfl)
  · rename_i g t xs
    simp only [Option.some.injEq, Prod.mk.injEq] at h
    obtain ⟨rfl, rfl⟩ := h
    cases hv with
    | own _ _ _ _ hg h1 =>
      have hok := hi.ok g
      rw [hg] at hok
      exact arr_reads hok hΦ (fun b hb => hT g (by simp) b (by rw [hg]; exact hb))
    | own0 => exact .nil' _
  · rename_i g c
    split at h
    · rename_i ds hf
      simp only [Option.some.injEq, Prod.mk.injEq] at h
      obtain ⟨rfl, rfl⟩ := h
      cases hv with
      | ptr _ _ _ b hg => exact box_reads hi hg hf hΦ (hT g (by simp) b (by rw [hg]; simp [TI.foot]))
    · cases h
  · simp only [Option.some.injEq, Prod.mk.injEq] at h
    obtain ⟨rfl, rfl⟩ := h
    exact (dptr_reads hv).keep hΦ (fun _ _ => rfl)
  · rename_i f caps
    split at h
    · rename_i ds T' hs
      simp only [Option.some.injEq, Prod.mk.injEq] at h
      obtain ⟨rfl, rfl⟩ := h
      cases hv with
      | clo _ _ vs hn hc =>
        obtain ⟨e1, e2⟩ := caps_reads hi hΦ caps ds T' vs.toList hs (by simpa using hn) (fun i v l h1 h2 => hc i v l (by simpa using h1) h2) hT
        exact .fn f ds vs (by simpa using e1.symm) (fun i v x h1 h2 => e2 i v x (by simpa using h1) h2)
    · cases h
  · cases h

theorem snaps_reads (hi : HInv S.C w Φ H) {Φ' : Nat → Prop} (hΦ : ∀ b, Φ b → Φ' b) : ∀ (ls : List LV) (ds : List DV) (T : List Tag), LV.snaps S.C.P ls = some (ds, T) → (∀ g, g ∈ T → ∀ b, b ∈ (H g).foot → Φ' b) →
    ds.length = ls.length ∧ ∀ (j : Nat) l x v, ls[j]? = some l → ds[j]? = some x → RL S.C w Φ H v l → RC w Φ' v x
  | [], ds, T, h, hT => by
    simp only [LV.snaps, Option.some.injEq, Prod.mk.injEq] at h
    obtain ⟨rfl, rfl⟩ := h
    exact ⟨rfl, fun j l x v h1 => by simp at h1⟩
  | l :: r, ds, T, h, hT => by
    simp only [LV.snaps] at h
    split at h
    · rename_i x T1 xs T2 h1 h2
      simp only [Option.some.injEq, Prod.mk.injEq] at h
      obtain ⟨rfl, rfl⟩ := h
      obtain ⟨e1, e2⟩ := snaps_reads hi hΦ r xs T2 h2 (fun g hg => hT g (by simp [hg]))
      refine ⟨by simp [e1], fun j l' x' v g1 g2 hv => ?_⟩
      cases j with
      | zero => simp at g1 g2; subst g1; subst g2; exact snap_reads hi hΦ h1 hv (fun g hg => hT g (by simp [hg]))
      | succ j => exact e2 j l' x' v (by simpa using g1) (by simpa using g2) hv
    · cases h

theorem wRows_sub {sz : Nat} : ∀ (parts : List (Nat × Operand)) (xs xs' : List (List DV)) (T T' : List Tag), wRows S sz (σ.eval S.n) parts xs T = some (xs', T') → ∀ g, g ∈ T → g ∈ T'
  | [], xs, xs', T, T', h => by
    simp only [wRows, Option.some.injEq, Prod.mk.injEq] at h
    obtain ⟨rfl, rfl⟩ := h
    exact fun g hg => hg
  | (i, x) :: r, xs, xs', T, T', h => by
    simp only [wRows] at h
    split at h
    · split at h
      · split at h
        · exact fun g hg => wRows_sub r _ _ _ _ h g (by simp [hg])
        · cases h
      · cases h
    · cases h

theorem fill_rows (inv : Inv S e Φ H σ a w) {sz : Nat} {Φ' : Nat → Prop} (hΦ : ∀ b, Φ b → Φ' b) :
    ∀ (parts : List (Nat × Operand)) (xs xs' : List (List DV)) (T T' : List Tag) (cells : Array Value), cells.size = xs.length * sz → (∀ r, r ∈ xs → r.length = sz) →
      (∀ (i : Nat) r (j : Nat) x u, xs[i]? = some r → r[j]? = some x → cells[i * sz + j]? = some u → RC w Φ' u x) → wRows S sz (σ.eval S.n) parts xs T = some (xs', T') → (∀ g, g ∈ T' → ∀ b, b ∈ (H g).foot → Φ' b) →
      ∃ r, Instr.fill (fun i => some (i * sz, sz)) cells (parts.map fun (i, x) => (i, a.eval x)) = some r ∧ xs'.length = xs.length ∧ r.size = xs.length * sz ∧ (∀ r, r ∈ xs' → r.length = sz) ∧
        (∀ (i : Nat) r' (j : Nat) x u, xs'[i]? = some r' → r'[j]? = some x → r[i * sz + j]? = some u → RC w Φ' u x)
  | [], xs, xs', T, T', cells, hn, he, hr, h, hT => by
    simp only [wRows, Option.some.injEq, Prod.mk.injEq] at h
    obtain ⟨rfl, rfl⟩ := h
    exact ⟨cells, rfl, rfl, hn, he, hr⟩
  | (i, x) :: r, xs, xs', T, T', cells, hn, he, hr, h, hT => by
    simp only [wRows] at h
    split at h
    · rename_i ms hm
      split at h
      · rename_i ds T2 hs
        split at h
        · rename_i hc
          obtain ⟨hv, hml⟩ := leaves_cells (inv.eval x) hm
          obtain ⟨e1, e2⟩ := snaps_reads inv.hi hΦ ms ds T2 hs (fun g hg => hT g (wRows_sub r _ _ _ _ h g (by simp [hg])))
          have hvs : (a.eval x).cells.size = sz := by omega
          obtain ⟨h1, h2⟩ := Go.Great.foldl_set (i * sz) (a.eval x).cells.toList 0 cells
          have heq : (a.eval x).cells.zipIdx.foldl (fun cs (x : Value × Nat) => cs.setIfInBounds (i * sz + x.2) x.1) cells = ((a.eval x).cells.toList.zipIdx 0).foldl (fun cs (x : Value × Nat) => cs.setIfInBounds (i * sz + x.2) x.1) cells := by
            rw [← Array.foldl_toList, Array.toList_zipIdx]
          have hmul : ∀ i' : Nat, i' < xs.length → i' * sz + sz ≤ xs.length * sz := fun i' hi' => by
            have : (i' + 1) * sz ≤ xs.length * sz := Nat.mul_le_mul_right _ hi'
            rw [Nat.add_mul, Nat.one_mul] at this
            exact this
          have hle := hmul i hc.2
          obtain ⟨res, g1, g2, g3, g4, g5⟩ := fill_rows inv hΦ r (xs.set i ds) xs' (T ++ T2) T' ((a.eval x).cells.zipIdx.foldl (fun cs (x : Value × Nat) => cs.setIfInBounds (i * sz + x.2) x.1) cells)
            (by rw [heq, h1]; simpa using hn)
            (fun r' hr' => by
              rcases List.mem_or_eq_of_mem_set hr' with h' | h'
              · exact he r' h'
              · rw [h']; exact hc.1)
            (fun i' r' j x' u k1 k2 k3 => by
              rw [heq, h2] at k3
              simp only [Nat.add_zero, Array.length_toList, hvs] at k3
              by_cases hii : i = i'
              · subst hii
                rw [List.getElem?_set_self hc.2] at k1
                simp only [Option.some.injEq] at k1
                subst k1
                have hj : j < ds.length := (List.getElem?_eq_some_iff.1 k2).1
                rw [if_pos (by omega)] at k3
                have hjm : j < ms.length := by omega
                have k4 : (a.eval x).cells[j]? = some u := by
                  have : i * sz + j - i * sz = j := by omega
                  rw [this] at k3
                  simpa using k3
                exact e2 j ms[j] x' u (by simp [hjm]) k2 (hml j _ u (by simp [hjm]) k4)
              · rw [List.getElem?_set_ne hii] at k1
                have hi' : i' < xs.length := (List.getElem?_eq_some_iff.1 k1).1
                have hrl : r'.length = sz := he r' (List.mem_of_getElem? k1)
                have hj : j < sz := by rw [← hrl]; exact (List.getElem?_eq_some_iff.1 k2).1
                have hno : ¬ (i * sz ≤ i' * sz + j ∧ i' * sz + j < i * sz + sz ∧ i' * sz + j < cells.size) := by
                  rintro ⟨q1, q2, _⟩
                  rcases Nat.lt_or_gt_of_ne hii with q | q
                  · have : (i + 1) * sz ≤ i' * sz := Nat.mul_le_mul_right _ q
                    rw [Nat.add_mul, Nat.one_mul] at this
                    omega
                  · have := idx_lt q hj
                    omega
                rw [if_neg hno] at k3
                exact hr i' r' j x' u k1 k2 k3)
            h hT
          refine ⟨res, ?_, by simpa using g2, by simpa using g3, g4, g5⟩
          simp only [List.map_cons]
          unfold Instr.fill
          simp only []
          rw [if_neg (by simp; omega)]
          exact g1
        · cases h
      · cases h
    · cases h

end
end Go.VS
namespace Go.VS
open Go Go.RowKit
set_option linter.unusedVariables false
set_option linter.unusedSimpArgs false

section
variable {S : Sys} {e : Entry} {Φ : Nat → Prop} {H : Tag → TI} {σ : Env} {a : Act} {w : World} {k : Env → Prop} {o : Oper}

theorem made_rows {len sz : Nat} {zc : Array Value} {z : List DV} (hzl : z.length = sz) (hzs : zc.size = sz) (hz : ∀ (j : Nat) x u, z[j]? = some x → zc[j]? = some u → RC w Φ u x) :
    ∀ (i : Nat) r (j : Nat) x u, (List.replicate len z)[i]? = some r → r[j]? = some x → (madeCells zc (len * sz))[i * sz + j]? = some u → RC w Φ u x := by
  intro i r j x u h1 h2 h3
  rw [List.getElem?_replicate] at h1
  split at h1
  · rename_i hi
    simp only [Option.some.injEq] at h1
    subst h1
    have hj : j < z.length := (List.getElem?_eq_some_iff.1 h2).1
    have hm : (i * sz + j) % sz = j := by
      rw [Nat.mul_comm, Nat.mul_add_mod]
      exact Nat.mod_eq_of_lt (by omega)
    have hjz : j < zc.size := by omega
    obtain ⟨h4, h5⟩ := Array.getElem?_eq_some_iff.1 h3
    simp only [madeCells, Array.getElem_map, Array.getElem_range, hzs, hm] at h5
    refine hz j x u h2 ?_
    rw [← h5]
    simp [hjz]
  · cases h1

theorem bounds_run {P : Program} {isS : Bool} {len cap : Nat} {lo hi : Option Value} {l h : Int} (hl : (lo = none ∧ l = 0) ∨ ∃ kd, lo = some (.int kd l)) (hh : (hi = none ∧ h = len) ∨ ∃ kd, hi = some (.int kd h)) (h0 : 0 ≤ l) (h1 : l ≤ h) (h2 : h ≤ len) (h3 : len ≤ cap) (w : World) :
    (Instr.sliceBounds isS len cap lo hi none).run P w = .ok (l.toNat, h.toNat, cap) w := by
  have ht : (h.toNat : Int) = h := Int.toNat_of_nonneg (by omega)
  have hc : h ≤ (cap : Int) := by omega
  have h0' : 0 ≤ h := by omega
  rcases hl with ⟨rfl, rfl⟩ | ⟨kl, rfl⟩ <;> rcases hh with ⟨rfl, rfl⟩ | ⟨kh, rfl⟩ <;> simp [Instr.sliceBounds, run_sliceBound, ht, hc, h0, h0', h1]

theorem optInt_bound {x : Option Operand} {d n : Int} (inv : Inv S e Φ H σ a w) (h : optInt d (x.map (σ.eval S.n)) = some n) : (x.map a.eval = none ∧ n = d) ∨ ∃ kd, x.map a.eval = some (.int kd n) := by
  cases x with
  | none => simp [optInt] at h; exact .inl ⟨rfl, h.symm⟩
  | some y =>
    simp only [Option.map_some] at h ⊢
    have hy := inv.eval y
    unfold optInt at h
    split at h
    · rename_i heq; cases heq
    · rename_i kd m heq
      simp only [Option.some.injEq] at heq h
      subst h
      rw [heq] at hy
      exact .inr ⟨kd, by rw [hy.int]⟩
    · cases h

theorem list_slice {P : Program} {t el : TypeId} {v : Value} {x : DV} {e' : Nat} {xs : List (List DV)} {lo hi : Option Value} {l h : Int} (ht : tElem P t = some el) (hz : P.cellsOf el ≠ 0) (hx : RC w Φ v x)
    (hr : (x = .nil ∧ e' = 0 ∧ xs = []) ∨ x = .list e' xs) (he : xs = [] ∨ e' = P.cellsOf el)
    (hl : (lo = none ∧ l = 0) ∨ ∃ kd, lo = some (.int kd l)) (hh : (hi = none ∧ h = xs.length) ∨ ∃ kd, hi = some (.int kd h)) (h0 : 0 ≤ l) (h1 : l ≤ h) (h2 : h ≤ xs.length) :
    ∃ v', (Instr.sliceAt t v lo hi none).run P w = .ok v' w ∧ RC w Φ v' (.list (P.cellsOf el) ((xs.take h.toNat).drop l.toNat)) := by
  have hu := tElem_run ht
  have key : ∀ (A : Option Addr) (c : Nat), xs.length ≤ c → v = .slice A xs.length c → (Instr.sliceAt t v lo hi none).run P w = .ok (.slice (if c = l.toNat then A else A.map (·.add (l.toNat * P.cellsOf el))) (h.toNat - l.toNat) (c - l.toNat)) w := by
    intro A c hc hv
    subst hv
    simp only [Instr.sliceAt, Sem.run_bind, run_underlying hu, Result.andThen_ok, Instr.slice, bounds_run hl hh h0 h1 h2 hc, run_sizeOf' w hz, Sem.run_pure]
  have hempty : ∀ A : Option Addr, xs = [] → (∀ b, A = some b → b.spot = none) → ∀ c, c ≤ maxLen → (Instr.sliceAt t (.slice A 0 c) lo hi none).run P w = .ok (.slice (if c = l.toNat then A else A.map (·.add (l.toNat * P.cellsOf el))) (h.toNat - l.toNat) (c - l.toNat)) w →
      (A = none → c = 0) → ∃ v', (Instr.sliceAt t (.slice A 0 c) lo hi none).run P w = .ok v' w ∧ RC w Φ v' (.list (P.cellsOf el) ((xs.take h.toNat).drop l.toNat)) := by
    intro A hxs hA c hc hrun hn
    subst hxs
    simp only [List.length_nil] at h2
    have hl0 : l.toNat = 0 := by omega
    have hh0 : h.toNat = 0 := by omega
    refine ⟨_, hrun, ?_⟩
    simp only [hl0, hh0, Nat.zero_mul, List.take_nil, List.drop_nil, Nat.sub_zero]
    cases A with
    | none =>
      have := hn rfl
      subst this
      exact .nil' _
    | some b =>
      obtain ⟨bb, oo, ss⟩ := b
      have := hA _ rfl
      simp only at this
      subst this
      have e1 : (if c = 0 then some (⟨bb, oo, none⟩ : Addr) else Option.map (fun x : Addr => x.add 0) (some ⟨bb, oo, none⟩)) = some ⟨bb, oo, none⟩ := by
        split
        · rfl
        · simp [add_spot]
      rw [e1]
      exact .list _ [] bb oo c (fun _ => undef) (by simp) hc (by simp) (by simp) (by simp) (by simp)
  rcases hr with ⟨rfl, rfl, rfl⟩ | rfl
  · cases hx
    exact hempty none rfl (by simp) 0 (by simp) (key none 0 (by simp) rfl) (by simp)
  · cases hx with
    | nil' _ => exact hempty none rfl (by simp) 0 (by simp) (key none 0 (by simp) rfl) (by simp)
    | list _ _ b of c cv hc hm hb hlen hv hrd =>
      by_cases hxs : xs = []
      · subst hxs
        exact hempty (some ⟨b, of, none⟩) rfl (by simp) c hm (key (some ⟨b, of, none⟩) c hc rfl) (by simp)
      · have hee : e' = P.cellsOf el := he.resolve_left hxs
        subst hee
        refine ⟨_, key (some ⟨b, of, none⟩) c hc rfl, ?_⟩
        have hlt : l.toNat ≤ xs.length := by omega
        have hlen' : ((xs.take h.toNat).drop l.toNat).length = h.toNat - l.toNat := by simp; omega
        by_cases hcl : c = l.toNat
        · have hl2 : ((xs.take h.toNat).drop l.toNat) = [] := List.length_eq_zero_iff.1 (by omega)
          have hd : h.toNat - l.toNat = 0 := by omega
          rw [hl2, hd, if_pos hcl]
          exact .list _ [] b of _ (fun _ => undef) (by simp) (by omega) (by simp) (by simp) (by simp) (by simp)
        · rw [if_neg hcl]
          simp only [Option.map_some, add_spot]
          rw [← hlen']
          refine .list _ _ b (of + l.toNat * P.cellsOf el) _ (fun j => cv (l.toNat * P.cellsOf el + j)) (by omega) (by omega) (fun _ => hb hxs) (fun r hr => hlen r (List.mem_of_mem_take (List.mem_of_mem_drop hr))) (fun j hj => ?_) (fun i r j x h3 h4 => ?_)
          · rw [Nat.add_assoc]
            refine hv _ ?_
            have h5 : (h.toNat - l.toNat) * P.cellsOf el + l.toNat * P.cellsOf el ≤ xs.length * P.cellsOf el := by
              rw [← Nat.add_mul]
              exact Nat.mul_le_mul_right _ (by omega)
            rw [hlen'] at hj
            omega
          · have h5 : xs[l.toNat + i]? = some r := by
              rw [List.getElem?_drop, List.getElem?_take] at h3
              split at h3
              · exact h3
              · cases h3
            have := hrd (l.toNat + i) r j x h5 h4
            rw [Nat.add_mul, Nat.add_assoc] at this
            exact this

theorem store_sound (inv : Inv S e Φ H σ a w) {t : TypeId} {x y : Operand} (h : wStore S t (σ.eval S.n x) (σ.eval S.n y) σ k) :
    ∃ w' H' σ', (Instr.storeAt t (a.eval x) (a.eval y)).run S.C.P w = .ok () w' ∧ k σ' ∧ Inv S e Φ H' σ' a w' ∧ (∀ d τ, H (.loc d τ) = .none → H' (.loc d τ) = .none) := by
  unfold wStore at h
  cases hm : (σ.eval S.n y).leaves with
  | none => simp [hm] at h
  | some ls =>
  simp only [hm] at h
  obtain ⟨h0, h⟩ := h
  obtain ⟨hv, hml⟩ := leaves_cells (inv.eval y) hm
  have hx := inv.eval x
  generalize a.eval y = vy at *
  generalize a.eval x = vx at *
  split at h
  · rename_i g off c heq
    rw [heq] at hx
    obtain ⟨h1, h2, h3, hk⟩ := h
    cases hx with
    | one v l hl => cases hl with
      | ptr _ _ _ b hg =>
        obtain ⟨w', H', hr, hi, hp⟩ := inv.storeBox hg vy.cells hv hml h2 h3
        refine ⟨w', H', _, ?_, hk, hi, hp⟩
        simp only [Instr.storeAt, Instr.sureAddr, Sem.run_bind, Sem.run_pure, Result.andThen_ok, storeVar, run_sizeOf' w h0, hv, h1, ne_eq, not_true_eq_false, if_false]
        exact hr
  · rename_i g t' xs i off heq
    rw [heq] at hx
    split at h
    · exact h.elim
    · rename_i ds hd
      obtain ⟨h1, h2, hk⟩ := h
      cases hx with
      | one v l hl => cases hl with
        | eptr _ _ _ _ _ b n cap hg hlt =>
          obtain ⟨f1, f2⟩ := flats_cells (C := S.C) (H := H) hv hml hd
          obtain ⟨w', H', hr, hi, hp⟩ := inv.storeArr hg hlt vy.cells f1 f2 h2
          refine ⟨w', H', _, ?_, hk, hi, hp⟩
          simp only [Instr.storeAt, Instr.sureAddr, Sem.run_bind, Sem.run_pure, Result.andThen_ok, storeVar, run_sizeOf' w h0, f1, h1, ne_eq, not_true_eq_false, if_false]
          exact hr
  · exact h.elim

theorem caps_sound (inv : Inv S e Φ H σ a w) : ∀ (xs : List Operand) (ls : List LV), capsOf (σ.eval S.n) xs = some ls → xs.length = ls.length ∧ ∀ (i : Nat) x l, xs[i]? = some x → ls[i]? = some l → RL S.C w Φ H (a.eval x) l
  | [], ls, h => by
    simp only [capsOf, Option.some.injEq] at h
    subst h
    exact ⟨rfl, fun i x l h1 => by simp at h1⟩
  | x :: r, ls, h => by
    simp only [capsOf] at h
    split at h
    · cases h
    · rename_i l ls' hne heq hr
      simp only [Option.some.injEq] at h
      subst h
      obtain ⟨e1, e2⟩ := caps_sound inv r ls' hr
      refine ⟨by simp [e1], fun i y l' h1 h2 => ?_⟩
      cases i with
      | zero =>
        simp at h1 h2
        subst h1; subst h2
        have := inv.eval x
        rw [heq] at this
        generalize a.eval x = vx at *
        cases this with
        | one _ _ hl => exact hl
        | any v => exact absurd rfl hne
      | succ i => exact e2 i y l' (by simpa using h1) (by simpa using h2)
    · cases h

theorem rowsU8_get : ∀ {xs : List (List DV)} {ns : List Int}, rowsU8 xs = some ns → xs = ns.map fun n => [DV.int .u8 n]
  | [], ns, h => by simp [rowsU8] at h; subst h; rfl
  | x :: r, ns, h => by
    unfold rowsU8 at h
    split at h
    · rename_i h0; cases h0
    · rename_i n r' heq
      injection heq with h1 h2
      subst h1; subst h2
      cases hr : rowsU8 r with
      | none => rw [hr] at h; cases h
      | some l => rw [hr] at h; injection h with h; subst h; rw [List.map_cons, ← rowsU8_get hr]
    · cases h
theorem fold_push : ∀ (ns : List Int) (s : ByteArray), ns.foldl (fun r n => r.push (UInt8.ofNat n.toNat)) s = ⟨(s.data.toList ++ ns.map fun n => UInt8.ofNat n.toNat).toArray⟩
  | [], s => by simp
  | n :: ns, s => by
    rw [List.foldl_cons, fold_push ns]
    simp [ByteArray.push]
theorem convB_sound {src dst : TypeId} {v : Value} {l : LV} {T : DV → Prop} (hi : HInv S.C w Φ H) (hv : RL S.C w Φ H v l) (h : wConvB S src dst l T) : ∃ v' x, (convert src dst v).run S.C.P w = .ok v' w ∧ RC w Φ v' x ∧ T x := by
  unfold wConvB at h
  split at h
  · rename_i e' xs L hrw
    split at h
    · rename_i e hs hd
      obtain ⟨he, h⟩ := h
      split at h
      · rename_i ns hns
        have hxs := rowsU8_get hns
        obtain ⟨A, c, vals, rfl, hc, hm, hvl, hrl, hcell, hread, hone, hA⟩ := rows_reads hi hv hrw
        refine ⟨_, _, ?_, .str _, h⟩
        rw [run_convert_bytes_string w src dst e A _ c hs he hd]
        cases ns with
        | nil =>
          subst hxs
          cases A with
          | none => simp [Conv.bytesToString]; rfl
          | some a =>
            rw [run_bytesToString w a _ c [] (by
              have := run_loadCells_list (P := S.C.P) (w := w) a [] (fun j v h => by simp at h)
              simpa using this)]
            rfl
        | cons n ns =>
          have h1 : e' = 1 := by
            have := hrl [DV.int .u8 n] (by rw [hxs]; simp)
            simpa using this.symm
          subst h1
          obtain ⟨a, rfl, hspot⟩ := hA (by rw [hxs]; simp)
          have hlen : vals.length = (n :: ns).length := by rw [hvl, hxs]; simp
          have hvals : vals = (n :: ns).map (Value.int .u8) := by
            apply List.ext_getElem?
            intro j
            by_cases hj : j < (n :: ns).length
            · have hv2 : vals[j]? = some (vals[j]'(by omega)) := List.getElem?_eq_getElem (by omega)
              have := hread j [DV.int .u8 (n :: ns)[j]] 0 (.int .u8 (n :: ns)[j]) (vals[j]'(by omega)) (by rw [hxs, List.getElem?_map, List.getElem?_eq_getElem hj]; rfl) rfl (by simp)
              rw [hv2, List.getElem?_map, List.getElem?_eq_getElem hj]
              generalize (vals[j]'(by omega)) = u at this ⊢
              cases this
              rfl
            · rw [List.getElem?_eq_none (by omega), List.getElem?_eq_none (by rw [List.length_map]; omega)]
          have hl := run_loadCells_list (P := S.C.P) (w := w) a vals (fun j v h => by
            obtain ⟨a', h1, h2, h3⟩ := hcell j v h
            injection h1 with h1; subst h1; exact h3)
          rw [hvals, List.length_map] at hl
          have hx : xs.length = (n :: ns).length := by rw [hxs]; simp
          rw [hx, run_bytesToString w a _ c (n :: ns) hl, fold_push]
          rfl
      · exact h.elim
    · exact h.elim
  · exact h.elim

theorem convert_sound {src dst : TypeId} {v : Value} {av : AV} {T : DV → Prop} (hi : HInv S.C w Φ H) (hv : RA S.C w Φ H v av) (h : wConvert S src dst av T) : ∃ v' x, (convert src dst v).run S.C.P w = .ok v' w ∧ RC w Φ v' x ∧ T x := by
  unfold wConvert at h
  split at h
  · rename_i kd n
    split at h
    · rename_i k1 k2 hs hd
      rw [hv.int]
      exact ⟨_, _, by simp [convert, run_underlying hs, run_underlying hd, Conv.intToInt], .int _ _, h⟩
    · exact h.elim
  · rename_i s
    split at h
    · rename_i hs hd
      rw [hv.str]
      exact ⟨_, _, by simp [convert, run_underlying hs, run_underlying hd], .str _, h⟩
    · exact h.elim
  · rename_i l _ _
    cases hv with
    | one _ _ hl => exact convB_sound hi hl h
    | any _ => exact h.elim
  · exact h.elim

theorem minmax_sound {isMax : Bool} {x y : Value} {ax ay : AV} {T : DV → Prop} {ts : Array TypeId} {ty : TypeId} (hx : RA S.C w Φ H x ax) (hy : RA S.C w Φ H y ay) (h : wMinMax isMax [ax, ay] T) :
    ∃ v z, (if isMax then Builtin.max_ ts ty #[x, y] else Builtin.min_ ts ty #[x, y]).run S.C.P w = .ok v w ∧ RC w Φ v z ∧ T z := by
  unfold wMinMax at h
  split at h
  · rename_i ka m kb n heq
    simp only [List.cons.injEq, and_true] at heq
    obtain ⟨rfl, rfl⟩ := heq
    rw [hx.int, hy.int]
    obtain ⟨rfl, h⟩ := h
    refine ⟨.int ka (if isMax then max m n else min m n), _, ?_, .int _ _, h⟩
    cases isMax
    · have : (if n < m then n else m) = min m n := by split <;> omega
      simp [Builtin.min_, Builtin.min2, this]
    · have : (if m < n then n else m) = max m n := by split <;> omega
      simp [Builtin.max_, Builtin.max2, this]
  · exact h.elim
end
end Go.VS
namespace Go.VS
open Go Go.RowKit
set_option linter.unusedVariables false
set_option linter.unusedSimpArgs false

section
variable {S : Sys} {e : Entry} {Φ : Nat → Prop} {H : Tag → TI} {σ : Env} {a : Act} {w : World} {k : Env → Prop} {o : Oper}

theorem tStr_run {P : Program} {t : TypeId} (h : tStr P t = true) : P.underlying t = some .string := by
  unfold tStr at h
  split at h
  · assumption
  · cases h
theorem tSlice_run {P : Program} {t : TypeId} (h : tSlice P t = true) : ∃ e, P.underlying t = some (.slice e) := by
  unfold tSlice at h
  split at h
  · exact ⟨_, by assumption⟩
  · cases h

theorem slice_step {draw : Bool} {t : TypeId} {x : Operand} {lo hi : Option Operand} (ho : o.op = .slice t x lo hi none) (inv : Inv S e Φ H σ a w)
    (h : wSlice S draw t (σ.eval S.n x) (lo.map (σ.eval S.n)) (hi.map (σ.eval S.n)) σ fun v σ' => wPut S o.dst v σ' k) : Step S e H k o a w := by
  have hx := inv.eval x
  have run : ∀ v' w', (Instr.sliceAt t (a.eval x) (lo.map a.eval) (hi.map a.eval) none).run S.C.P w = .ok v' w' → (execOp a.eval o).run S.C.P w = .ok (.value v') w' := fun v' w' hr => by
    unfold execOp
    simp only [ho, Option.map_none]
    exact run_v hr
  generalize a.eval x = vx at *
  unfold wSlice at h
  split at h
  · rename_i s heq
    rw [heq] at hx
    have hv := hx.str
    subst hv
    obtain ⟨hu, h⟩ := h
    have hu' := tStr_run hu
    split at h
    · rename_i l hh hl hhh
      obtain ⟨h0, h1, h2, hk⟩ := h
      have e1 := optInt_bound inv hl
      have e2 := optInt_bound inv hhh
      refine Step.same (run _ _ ?_) inv (RA.d (.str _)) hk
      simp only [Instr.sliceAt, Sem.run_bind, run_underlying hu', Result.andThen_ok, Instr.slice, Option.isSome_none, Bool.false_eq_true, if_false, Sem.run_pure, bounds_run (cap := s.size) e1 e2 h0 h1 h2 (Nat.le_refl _)]
    · exact h.elim
  · rename_i l hnot heq
    rw [heq] at hx
    split at h
    · rename_i el e' xs L hel hrw
      obtain ⟨hee, h0, h⟩ := h
      split at h
      · rename_i lo' hi' hl hhh
        obtain ⟨g0, g1, g2, hk⟩ := h
        have e1 := optInt_bound inv hl
        have e2 := optInt_bound inv hhh
        cases hx with
        | any v => simp [LV.rows?] at hrw
        | one v l hx =>
        unfold LV.rows? at hrw
        split at hrw
        · simp only [Option.some.injEq, Prod.mk.injEq] at hrw
          obtain ⟨rfl, rfl, rfl⟩ := hrw
          simp only [if_true] at hk
          obtain ⟨v', hr, hc⟩ := list_slice (e' := 0) hel h0 hx.flat (.inl ⟨rfl, rfl, rfl⟩) hee e1 e2 g0 g1 g2
          exact Step.same (run _ _ hr) inv (RA.d hc) hk
        · rename_i e2' xs2
          simp only [Option.some.injEq, Prod.mk.injEq] at hrw
          obtain ⟨rfl, rfl, rfl⟩ := hrw
          simp only [if_true] at hk
          obtain ⟨v', hr, hc⟩ := list_slice hel h0 hx.flat (.inr rfl) hee e1 e2 g0 g1 g2
          exact Step.same (run _ _ hr) inv (RA.d hc) hk
        · rename_i g t' xs2
          simp only [Option.some.injEq, Prod.mk.injEq] at hrw
          obtain ⟨rfl, rfl, rfl⟩ := hrw
          rw [if_neg (by simp)] at hk
          have hf := RL.frz (p := among [g]) inv.hi _ hx
          have : (LV.own g t' xs2).up (VS.frz S.C.P (among [g])) = .d (.list (S.C.P.cellsOf t') xs2) := by simp [LV.up, VS.frz, among]
          rw [this] at hf
          obtain ⟨v', hr, hc⟩ := list_slice hel h0 hf.flat (.inr rfl) hee e1 e2 g0 g1 g2
          exact Step.new (run _ _ hr) (inv.frz (among [g])) (RA.d hc) (fun d τ _ h => frzH_pres h) hk.2
        · cases hrw
      · exact h.elim
    · exact h.elim
  · exact h.elim

theorem makeSlice_step {t : TypeId} {len cap : Operand} (ho : o.op = .makeSlice t len cap) (inv : Inv S e Φ H σ a w) (hf : ∀ d, o.dst = some d → Fresh H d)
    {d : Nat} (hd : o.dst = some d) {el : TypeId} (hel : tElem S.C.P t = some el) {k1 k2 : IntKind} {m n : Int} (hm : σ.eval S.n len = .one (.d (.int k1 m))) (hn : σ.eval S.n cap = .one (.d (.int k2 n))) {z : List DV} (hz : (tZero S.C.P el).bind (zeroR S.C.P el) = some z)
    (h : z.length = S.C.P.cellsOf el ∧ m = n ∧ 0 ≤ n ∧ n ≤ maxMade ∧ S.C.P.bytesOf el ≤ 65536 ∧ S.C.P.cellsOf el ≠ 0 ∧ wPut S (some d) (.one (.own (.loc d .nil) el (List.replicate n.toNat z))) σ k) : Step S e H k o a w := by
  obtain ⟨hzl, rfl, h0, hmax, hby, hsz, hk⟩ := h
  have v1 := inv.eval len
  have v2 := inv.eval cap
  rw [hm] at v1
  rw [hn] at v2
  cases hzt : tZero S.C.P el with
  | none => simp [hzt] at hz
  | some zs =>
  rw [hzt] at hz
  simp only [Option.bind_some] at hz
  obtain ⟨i, zv, hi, hzz, hzc⟩ := tZero_info hzt
  obtain ⟨hl1, hl2⟩ := zeroR_cells (C := S.C) (H := H) (w := w) (Φ := Φ) hz
  have hzs : zv.cells.size = S.C.P.cellsOf el := by rw [← hzl, hl1, ← hzc]; simp
  have his : i.size = S.C.P.cellsOf el := by simp [Program.cellsOf, hi]
  have hib : i.bytes ≤ 65536 := by
    have : S.C.P.bytesOf el = i.bytes := by simp [Program.bytesOf, hi]
    omega
  have hmul : (i.bytes : Int) * m ≤ 281474976710656 := by
    have h1 : i.bytes * m.toNat ≤ 65536 * 2147483648 := Nat.mul_le_mul hib (by simp only [maxMade] at hmax; omega)
    have h2 : (m.toNat : Int) = m := Int.toNat_of_nonneg h0
    rw [← h2, ← Int.natCast_mul]
    omega
  have hr := run_make (P := S.C.P) w t el i zv (tElem_run hel) hi hzz k1 k2 m m h0 (Int.le_refl _) hmul (by simp only [maxMade] at hmax; omega)
  rw [his] at hr
  have hrun : (execOp a.eval o).run S.C.P w = .ok (.value (.slice (some ⟨w.heap.size, 0, none⟩) m.toNat m.toNat)) (w.alloc (.cells (madeCells zv.cells (m.toNat * S.C.P.cellsOf el)) el)) := by
    unfold execOp
    simp only [ho]
    rw [v1.int, v2.int]
    exact run_v hr
  obtain ⟨i2, r2⟩ := inv.newRow (hf d hd) (madeCells zv.cells (m.toNat * S.C.P.cellsOf el)) el (List.replicate m.toNat z) (by simp [maxLen]; simp only [maxMade] at hmax; omega) (by simp [size_madeCells]) (fun r hr => by rw [(List.mem_replicate.1 hr).2]; exact hzl)
    (made_rows hzl hzs (fun j x u h1 h2 => hl2 j x u h1 (by rw [← hzc]; simpa using h2)))
  simp only [List.length_replicate] at i2 r2
  rw [← hd] at hk
  exact Step.new hrun i2 r2 (by rw [hd]; exact Pres.bindT d .nil H _) hk

theorem buildSlice_step {t : TypeId} {len : Nat} {parts : Array (Nat × Operand)} {draw : Bool} (ho : o.op = .buildSlice t len parts) (inv : Inv S e Φ H σ a w) (hf : ∀ d, o.dst = some d → Fresh H d)
    {d : Nat} (hd : o.dst = some d) {el : TypeId} (hel : tElem S.C.P t = some el) {z : List DV} (hz : (tZero S.C.P el).bind (zeroR S.C.P el) = some z) {xs : List (List DV)} {T : List Tag} (hrw : wRows S (S.C.P.cellsOf el) (σ.eval S.n) parts.toList (List.replicate len z) [] = some (xs, T))
    (hzl : z.length = S.C.P.cellsOf el) (h0 : S.C.P.cellsOf el ≠ 0) (hle : len * S.C.P.cellsOf el ≤ 65536)
    (h : if len = 0 then wPut S (some d) (.one (.own (.loc d .nil) el [])) σ k else if T = [] then wPut S (some d) (.one (.own (.loc d .nil) el xs)) σ k else draw = false ∧ wPut S (some d) (.one (.own (.loc d .nil) el xs)) (σ.up (VS.frz S.C.P (among T))) k) : Step S e H k o a w := by
  cases hzt : tZero S.C.P el with
  | none => simp [hzt] at hz
  | some zs =>
  rw [hzt] at hz
  simp only [Option.bind_some] at hz
  obtain ⟨i, zv, hi, hzz, hzc⟩ := tZero_info hzt
  obtain ⟨hl1, hl2⟩ := zeroR_cells (C := S.C) (H := H) (w := w) (Φ := Φ) hz
  have hzs : zv.cells.size = S.C.P.cellsOf el := by rw [← hzl, hl1, ← hzc]; simp
  have his : i.size = S.C.P.cellsOf el := by simp [Program.cellsOf, hi]
  have hu := tElem_run hel
  by_cases hl0 : len = 0
  · rw [if_pos hl0] at h
    subst hl0
    obtain ⟨r, hr, -, hrs, -, -⟩ := fill_rows inv (sz := S.C.P.cellsOf el) (Φ' := fun _ => True) (fun _ _ => trivial) parts.toList _ xs [] T #[] (by simp) (by simp) (by simp) hrw (fun _ _ _ _ => trivial)
    have hr0 : r = #[] := by simpa using hrs
    subst hr0
    have hrun : (execOp a.eval o).run S.C.P w = .ok (.value (.slice (some ⟨w.heap.size, 0, none⟩) 0 0)) (w.alloc (.cells #[] el)) := by
      unfold execOp
      simp only [ho]
      refine run_v ?_
      have hr' : Instr.fill (fun i => some (i * S.C.P.cellsOf el, S.C.P.cellsOf el)) #[] (List.map (fun x => (x.fst, a.eval x.snd)) parts.toList) = some #[] := hr
      simp [Instr.buildSlice, run_underlying hu, run_sizeOf' w h0, hr', newRow, Array.range_zero']
    obtain ⟨i2, r2⟩ := inv.newRow (hf d hd) #[] el [] (by simp) (by simp) (by simp) (by simp)
    rw [← hd] at h
    exact Step.new hrun i2 r2 (by rw [hd]; exact Pres.bindT d .nil H _) h
  · rw [if_neg hl0] at h
    have hpos : ¬ len * i.size = 0 := by
      rw [his]
      intro h1
      rcases Nat.mul_eq_zero.1 h1 with h2 | h2
      · exact hl0 h2
      · exact h0 h2
    have main : ∀ (Φ' : Nat → Prop) (H' : Tag → TI) (σ' : Env), (∀ b, Φ b → Φ' b) → (∀ g, g ∈ T → ∀ b, b ∈ (H g).foot → Φ' b) → Inv S e Φ' H' σ' a w → Fresh H' d → (∀ d' τ, H (.loc d' τ) = .none → H' (.loc d' τ) = .none) →
        wPut S (some d) (.one (.own (.loc d .nil) el xs)) σ' k → Step S e H k o a w := by
      intro Φ' H' σ' hΦ hT inv' hfr hp hk
      obtain ⟨r, hr, hxl, hrs, hlen, hread⟩ := fill_rows inv (sz := S.C.P.cellsOf el) hΦ parts.toList (List.replicate len z) xs [] T (madeCells zv.cells (len * S.C.P.cellsOf el)) (by simp [size_madeCells]) (fun r hr => by rw [(List.mem_replicate.1 hr).2]; exact hzl)
        (made_rows hzl hzs (fun j x u h1 h2 => (hl2 j x u h1 (by rw [← hzc]; simpa using h2)).keep hΦ (fun _ _ => rfl))) hrw hT
      simp only [List.length_replicate] at hxl hrs
      have hrun : (execOp a.eval o).run S.C.P w = .ok (.value (.slice (some ⟨w.heap.size, 0, none⟩) len len)) (w.alloc (.cells r el)) := by
        unfold execOp
        simp only [ho]
        refine run_v (run_buildSlice w t el len _ r i zv hu hi hzz (by rw [his]; omega) hpos ?_)
        rw [his, Array.toList_map]
        exact hr
      obtain ⟨i2, r2⟩ := inv'.newRow hfr r el xs (by rw [hxl]; simp only [maxLen]; have := Nat.le_mul_of_pos_right len (Nat.pos_of_ne_zero h0); omega) (by rw [hxl]; exact hrs) hlen hread
      rw [hxl] at i2 r2
      rw [← hd] at hk
      exact Step.new hrun i2 r2 (by rw [hd]; exact fun d' τ hne h1 => Pres.bindT d .nil H' _ d' τ hne (hp d' τ h1)) hk
    by_cases hT : T = []
    · rw [if_pos hT] at h
      exact main Φ H σ (fun _ h => h) (fun g hg => by rw [hT] at hg; cases hg) inv (hf d hd) (fun _ _ h => h) h
    · rw [if_neg hT] at h
      exact main _ _ _ (fun b hb => .inl hb) (fun g hg b hb => .inr ⟨g, by simpa [among] using hg, hb⟩) (inv.frz (among T)) (fun τ hτ => frzH_pres (hf d hd τ hτ)) (fun d' τ h1 => frzH_pres h1) h.2
end
end Go.VS
namespace Go.VS
open Go Go.RowKit
set_option linter.unusedVariables false
set_option linter.unusedSimpArgs false

/-- A call of a function. -/
def isCall : Op → Bool
  | .call c => match c.callee with
    | .value _ => true
    | _ => false
  | _ => false

section
variable {S : Sys} {e : Entry} {Φ : Nat → Prop} {H : Tag → TI} {σ : Env} {a : Act} {w : World} {k : Env → Prop} {o : Oper}

theorem builtin_run {c : Call} {b : Builtin} {v : Value} {w' : World} (ho : o.op = .call c) (hc : c.callee = .builtin b)
    (hr : (builtin b c.argTypes o.type (c.args.map fun | .const _ => true | _ => false) (c.args.map a.eval)).run S.C.P w = .ok (.value v) w') : (execOp a.eval o).run S.C.P w = .ok (.value v) w' := by
  unfold execOp
  simp only [ho, resolve, hc, Sem.run_bind, Sem.run_pure, Result.andThen_ok, invoke]
  exact hr

theorem toList_two {α : Type} {xs : Array α} {x y : α} (h : xs.toList = [x, y]) : xs = #[x, y] := by
  cases xs
  simp only at h
  rw [h]
theorem toList_one {α : Type} {xs : Array α} {x : α} (h : xs.toList = [x]) : xs = #[x] := by
  cases xs
  simp only at h
  rw [h]

theorem RL.len {v : Value} {l : LV} {draw : Bool} {t : TypeId} {T : AV → Prop} (inv : HInv S.C w Φ H) (hv : RL S.C w Φ H v l) (h : wLen S draw t (.one l) T) :
    ∃ n : Nat, (Builtin.len_ #[t] o.type #[v]).run S.C.P w = .ok (goInt n) w ∧ T (.one (.d (.int .i64 n))) := by
  have slRun : ∀ A n c, v = .slice A n c → tSlice S.C.P t = true → (Builtin.len_ #[t] o.type #[v]).run S.C.P w = .ok (goInt n) w := by
    intro A n c hs hd
    obtain ⟨e, hd⟩ := tSlice_run hd
    subst hs
    simp [Builtin.len_, run_underlying hd]
  unfold wLen at h
  split at h
  · rename_i s heq
    simp only [AV.one.injEq] at heq
    subst heq
    have := hv.flat
    cases this
    refine ⟨s.size, ?_, h.2⟩
    have hd := tStr_run h.1
    simp [Builtin.len_, run_underlying hd]
  · rename_i heq
    simp only [AV.one.injEq] at heq
    subst heq
    have := hv.flat
    cases this
    exact ⟨0, slRun _ _ _ rfl h.1, h.2⟩
  · rename_i e' xs heq
    simp only [AV.one.injEq] at heq
    subst heq
    have := hv.flat
    cases this with
    | nil' _ => exact ⟨0, slRun _ _ _ rfl h.1, h.2 (by simp)⟩
    | list _ _ b of c cv hc hm => exact ⟨xs.length, slRun _ _ _ rfl h.1, h.2 (fun _ => by simp only [maxLen] at hm; omega)⟩
  · rename_i g t' xs heq
    simp only [AV.one.injEq] at heq
    subst heq
    cases hv with
    | own _ _ _ _ hg h1 =>
      have hok := inv.ok g
      rw [hg] at hok
      cases hok with
      | arr _ _ _ vals ho he hr =>
        rcases ho.2 with ⟨rfl, h0⟩ | ⟨b, cap, cur, rfl, hbase, hh, hnc, hcm, rest⟩
        · have hx0 : xs.length = 0 := by simpa using h0
          exact ⟨xs.length, by rw [hx0]; exact slRun _ _ _ rfl h.1, h.2 (fun _ => by omega)⟩
        · exact ⟨xs.length, slRun _ _ _ rfl h.1, h.2 (fun _ => by simp only [maxLen] at hcm; omega)⟩
    | own0 => exact ⟨0, slRun _ _ _ rfl h.1, h.2 (by simp)⟩
  · exact h.elim

theorem len_step {draw : Bool} {c : Call} {x : Operand} {t : TypeId} (ho : o.op = .call c) (hc : c.callee = .builtin .len) (hx : c.args.toList = [x]) (ht : c.argTypes.toList = [t]) (inv : Inv S e Φ H σ a w)
    (h : wLen S draw t (σ.eval S.n x) fun v => wPut S o.dst v σ k) : Step S e H k o a w := by
  have hv := inv.eval x
  have run : ∀ n : Nat, (Builtin.len_ #[t] o.type #[a.eval x]).run S.C.P w = .ok (goInt n) w → (execOp a.eval o).run S.C.P w = .ok (.value (goInt n)) w := fun n hr => by
    refine builtin_run ho hc ?_
    rw [toList_one hx, toList_one ht]
    simp only [List.map_toArray, List.map_cons, List.map_nil]
    exact run_v hr
  generalize a.eval x = vx at *
  generalize σ.eval S.n x = ax at *
  cases hv with
  | one v l hl =>
    obtain ⟨n, hr, hk⟩ := hl.len (o := o) inv.hi h
    exact Step.same (run n hr) inv (RA.d (.int _ _)) hk
  | any v => exact h.elim
  | agg ls vs hn hh => exact h.elim
  | tup as vs hn hh => exact h.elim

theorem callOp_step {draw mutOk : Bool} {c : Call} (ho : o.op = .call c) (hnc : isCall o.op = false) (hf : ∀ d, o.dst = some d → creates o.op = true → Fresh H d) (inv : Inv S e Φ H σ a w)
    (h : wCallOp S draw mutOk o.dst c σ k) : Step S e H k o a w := by
  unfold wCallOp at h
  split at h
  · rename_i hc
    split at h
    · rename_i x t hx ht
      exact len_step ho hc hx ht inv h
    · exact h.elim
  · rename_i hc
    split at h
    · rename_i d x y t t' hd hx ht
      split at h
      · rename_i el hel
        obtain ⟨rfl, hz, h⟩ := h
        have hzs : (tZero S.C.P el).isSome := by
          cases hq : tZero S.C.P el with
          | none => simp [hq] at hz
          | some _ => rfl
        obtain ⟨v', w', Φ', H', σ', av, hr, hv', hk, hi, hp⟩ := append_sound (ty := o.type) inv (hf d hd (by simp [creates, ho, hc])) hel hzs hz (inv.eval x) (inv.eval y) h
        refine Step.new (v := v') (x := av) (Φ' := Φ') (H' := H') (builtin_run ho hc ?_) hi hv' (by rw [hd]; exact hp) (by rw [hd]; exact hk)
        rw [toList_two hx, toList_two ht]
        simp only [List.map_toArray, List.map_cons, List.map_nil]
        exact run_v hr
      · exact h.elim
    · exact h.elim
  · rename_i hc
    split at h
    · rename_i x y hx
      obtain ⟨v, z, hr, hz, hk⟩ := minmax_sound (isMax := true) (ts := c.argTypes) (ty := o.type) (inv.eval x) (inv.eval y) h
      refine Step.same (builtin_run ho hc ?_) inv (RA.d hz) hk
      rw [toList_two hx]
      simp only [List.map_toArray, List.map_cons, List.map_nil]
      exact run_v hr
    · exact h.elim
  · rename_i hc
    split at h
    · rename_i x y hx
      obtain ⟨v, z, hr, hz, hk⟩ := minmax_sound (isMax := false) (ts := c.argTypes) (ty := o.type) (inv.eval x) (inv.eval y) h
      refine Step.same (builtin_run ho hc ?_) inv (RA.d hz) hk
      rw [toList_two hx]
      simp only [List.map_toArray, List.map_cons, List.map_nil]
      exact run_v hr
    · exact h.elim
  · rename_i f hc
    simp [isCall, ho, hc] at hnc
  · exact h.elim

theorem op_step {draw mutOk : Bool} (hnc : isCall o.op = false) (hf : ∀ d, o.dst = some d → creates o.op = true → Fresh H d) (inv : Inv S e Φ H σ a w) (h : wOp S draw mutOk o σ k) : Step S e H k o a w := by
  unfold wOp at h
  split at h
  · rename_i x ho
    exact Step.same (v := a.eval x) (by unfold execOp; simp only [ho, Sem.run_pure]) inv (inv.eval x) h
  · rename_i x ho
    exact Step.same (v := a.eval x) (by unfold execOp; simp only [ho, Sem.run_pure]) inv (inv.eval x) h
  · rename_i c x y ho
    obtain ⟨b, hb, hk⟩ := wBool_inv h
    have hc := inv.eval c
    rw [hb] at hc
    refine Step.same (v := if b then a.eval x else a.eval y) ?_ inv (pick_sound (inv.eval x) (inv.eval y)) hk
    unfold execOp
    simp only [ho, hc.bool, asBool, Sem.run_bind, Sem.run_pure, Result.andThen_ok]
  · rename_i t x ho
    obtain ⟨u, au, hr, hu, hk⟩ := load_sound (e := e) (σ := σ) (a := a) inv.hi (inv.eval x) h
    exact Step.same (by unfold execOp; simp only [ho]; exact run_v hr) inv hu hk
  · rename_i t x y ho
    obtain ⟨hm, hd, h⟩ := h
    obtain ⟨w', H', σ', hr, hk, hi, hp⟩ := store_sound inv h
    refine ⟨undef, w', Φ, H', σ', .inr ⟨?_, rfl⟩, hk, by rw [hd]; simpa [Act.put] using hi, fun d τ _ h1 => hp d τ h1⟩
    unfold execOp
    simp only [ho, Sem.run_bind, hr, Result.andThen_ok, Sem.run_pure]
  · rename_i s x f ho
    obtain ⟨u, au, hr, hu, hk⟩ := field_sound inv.hi (inv.eval x) h
    exact Step.same (by unfold execOp; simp only [ho]; exact run_v hr) inv hu hk
  · rename_i t x i ho
    obtain ⟨u, au, hr, hu, hk⟩ := indexAddr_sound inv.hi (inv.eval x) (inv.eval i) h
    exact Step.same (by unfold execOp; simp only [ho]; exact run_v hr) inv hu hk
  · rename_i t x i ho
    split at h
    · rename_i s kd n h1 h2 hu
      obtain ⟨h3, h4, hk⟩ := h
      have v1 := inv.eval x
      have v2 := inv.eval i
      rw [h1] at v1
      rw [h2] at v2
      refine Step.same (v := .int .u8 (byteAt s n)) ?_ inv (RA.d (.int _ _)) hk
      unfold execOp
      simp only [ho]
      rw [v1.str, v2.int]
      exact run_v (index_run w hu h3 h4)
    · exact h.elim
  · rename_i t x f ho
    split at h
    · rename_i off ft ls h1 h2
      have v1 := inv.eval x
      rw [h2] at v1
      have run : ∀ v, (Instr.field t (a.eval x) f).run S.C.P w = .ok v w → (execOp a.eval o).run S.C.P w = .ok (.value v) w := fun v hr => by
        unfold execOp
        simp only [ho]
        exact run_v hr
      generalize a.eval x = vx at *
      cases v1 with
      | agg _ cs hn hl =>
        obtain ⟨v, av, hr, hv, hk⟩ := wPart_agg hn hl h
        exact Step.same (run v (by rw [field_run h1]; exact hr)) inv hv hk
    · exact h.elim
  · rename_i op t x y rt ho
    obtain ⟨u, z, hr, hz, hk⟩ := bin_sound inv.hi (inv.eval x) (inv.eval y) h
    refine Step.same (v := u) ?_ inv (RA.d hz) hk
    unfold execOp
    simp only [ho]
    exact run_v hr
  · rename_i op t x ho
    split at h
    · rename_i b h1
      have v1 := inv.eval x
      rw [h1] at v1
      refine Step.same (v := .bool (!b)) ?_ inv (RA.d (.bool _)) h
      unfold execOp
      simp only [ho]
      rw [v1.bool]
      exact run_v (by simp [Op.unary])
    · rename_i kd n h1
      have v1 := inv.eval x
      rw [h1] at v1
      refine Step.same (v := .int kd (kd.wrap (0 - n))) ?_ inv (RA.d (.int _ _)) h
      unfold execOp
      simp only [ho]
      rw [v1.int]
      exact run_v (by simp [Op.unary, Op.intArith])
    · exact h.elim
  · rename_i src dst x ho
    obtain ⟨u, z, hr, hz, hk⟩ := convert_sound inv.hi (inv.eval x) h
    refine Step.same (v := u) ?_ inv (RA.d hz) hk
    unfold execOp
    simp only [ho]
    exact run_v hr
  · rename_i x i ho
    split at h
    · rename_i vs h1
      split at h
      · rename_i av h2
        have v1 := inv.eval x
        rw [h1] at v1
        have run : ∀ v, (Instr.extract (a.eval x) i).run S.C.P w = .ok v w → (execOp a.eval o).run S.C.P w = .ok (.value v) w := fun v hr => by
          unfold execOp
          simp only [ho]
          exact run_v hr
        generalize a.eval x = vx at *
        cases v1 with
        | tup _ us hn hl =>
          have hlt : i < us.size := by rw [hn]; exact (List.getElem?_eq_some_iff.1 h2).1
          exact Step.same (run us[i] (by simp [Instr.extract, hlt])) inv (hl i _ _ (by simp [hlt]) h2) h
      · exact h.elim
    · exact h.elim
  · rename_i x ho
    have v1 := inv.eval x
    have run : ∀ b off, a.eval x = .pointer (some ⟨b, off, none⟩) → (execOp a.eval o).run S.C.P w = .ok (.value (a.eval x)) w := fun b off hr => by
      unfold execOp
      simp only [ho, hr, Sem.run_pure]
    split at h
    · rename_i g off c h1
      rw [h1] at v1
      generalize a.eval x = vx at *
      have : ∃ b o', vx = .pointer (some ⟨b, o', none⟩) := by
        cases v1 with
        | one _ _ hl => cases hl with
          | ptr => exact ⟨_, _, rfl⟩
      obtain ⟨b, o', hv⟩ := this
      exact Step.same (run b o' hv) inv v1 h
    · rename_i g t xs i off h1
      rw [h1] at v1
      generalize a.eval x = vx at *
      have : ∃ b o', vx = .pointer (some ⟨b, o', none⟩) := by
        cases v1 with
        | one _ _ hl => cases hl with
          | eptr => exact ⟨_, _, rfl⟩
      obtain ⟨b, o', hv⟩ := this
      exact Step.same (run b o' hv) inv v1 h
    · rename_i c off h1
      rw [h1] at v1
      generalize a.eval x = vx at *
      have : ∃ b o', vx = .pointer (some ⟨b, o', none⟩) := by
        cases v1 with
        | one _ _ hl => cases hl with
          | dptr => exact ⟨_, _, rfl⟩
      obtain ⟨b, o', hv⟩ := this
      exact Step.same (run b o' hv) inv v1 h
    · exact h.elim
  · rename_i f first captured ho
    obtain ⟨rfl, h⟩ := h
    split at h
    · rename_i ls hc
      obtain ⟨e1, e2⟩ := caps_sound inv _ _ hc
      refine Step.same (v := .func (.func f) #[] (captured.map a.eval)) (x := .one (.clo f ls)) ?_ inv (.one _ _ (.clo f ls _ (by simpa using e1) (fun i v l h1 h2 => ?_))) h
      · unfold execOp
        simp only [ho]
        exact run_v (by simp [Instr.makeFunc])
      · rw [Array.getElem?_map, Option.map_eq_some_iff] at h1
        obtain ⟨x, hx, rfl⟩ := h1
        exact e2 i x l (by simpa using hx) h2
    · exact h.elim
  · rename_i t x ho
    split at h
    · rename_i d ls hd hm
      obtain ⟨hv, hml⟩ := leaves_cells (inv.eval x) hm
      obtain ⟨i2, r2⟩ := inv.newBox (hf d hd (by simp [creates, ho])) (a.eval x).cells t ls hv hml
      rw [← hd] at h
      refine Step.new (v := .pointer (some ⟨w.heap.size, 0, none⟩)) (w' := w.alloc (.cells (a.eval x).cells t)) ?_ i2 r2 (by rw [hd]; exact Pres.bindT d .nil H _) h
      unfold execOp
      simp only [ho]
      exact run_v (by simp [Instr.box, newVar, newRow])
    · exact h.elim
  · rename_i t ho
    split at h
    · rename_i d ds hd hz
      cases hzt : tZero S.C.P t with
      | none => simp [hzt] at hz
      | some zs =>
      rw [hzt] at hz
      simp only [Option.bind_some] at hz
      obtain ⟨i, zv, hi, hzz, hzc⟩ := tZero_info hzt
      obtain ⟨hl1, hl2⟩ := zero_cells (C := S.C) (H := H) (w := w) (Φ := Φ) hz
      obtain ⟨i2, r2⟩ := inv.newBox (hf d hd (by simp [creates, ho])) zv.cells t (ds.map .d) (by simp [hl1, ← hzc]) (fun j l u h1 h2 => by
        rw [List.getElem?_map, Option.map_eq_some_iff] at h1
        obtain ⟨x, hx, rfl⟩ := h1
        exact .d _ _ (hl2 j x u hx (by rw [← hzc]; simpa using h2)))
      rw [← hd] at h
      refine Step.new (v := .pointer (some ⟨w.heap.size, 0, none⟩)) (w' := w.alloc (.cells zv.cells t)) ?_ i2 r2 (by rw [hd]; exact Pres.bindT d .nil H _) h
      unfold execOp
      simp only [ho]
      exact run_v (by simp [Instr.alloc, newVar, newRow, zeroValue, typeInfo, hi, hzz])
    · exact h.elim
  · rename_i t parts ho
    split at h
    · rename_i ds ht hz
      split at h
      · rename_i ls hw
        obtain ⟨cs, hr, hv⟩ := build_sound inv ht hz hw
        exact Step.same (by unfold execOp; simp only [ho]; exact run_v hr) inv hv h
      · exact h.elim
    · exact h.elim
  · rename_i t len parts ho
    split at h
    · rename_i d el hd hel
      split at h
      · rename_i z hz
        obtain ⟨hzl, h0, hle, h⟩ := h
        split at h
        · rename_i xs T hw
          exact buildSlice_step ho inv (fun d hd => hf d hd (by simp [creates, ho])) hd hel hz hw hzl h0 hle h
        · exact h.elim
      · exact h.elim
    · exact h.elim
  · rename_i t len cap ho
    split at h
    · rename_i d el k1 m k2 n hd hel hm hn
      split at h
      · rename_i z hz
        exact makeSlice_step ho inv (fun d hd => hf d hd (by simp [creates, ho])) hd hel hm hn hz h
      · exact h.elim
    · exact h.elim
  · rename_i t x lo hi ho
    exact slice_step ho inv h
  · rename_i c ho
    exact callOp_step ho hnc hf inv h
  · exact h.elim
end
end Go.VS
namespace Go.VS
open Go Go.RowKit
set_option linter.unusedVariables false
set_option linter.unusedSimpArgs false

def Tag.isPar : Tag → Bool
  | .par _ => true
  | _ => false
/-- What a callee knows of names. -/
def callH (H : Tag → TI) (T : List Tag) (N : List (Tag × TypeId)) : Tag → TI
  | .par h => if h ∈ T then H h else if h.isVar then (match lookN N h with | some t => .arr (.slice none 0 0) t [] | none => .none) else .none
  | _ => .none
theorem callH_some {H : Tag → TI} {T : List Tag} {N : List (Tag × TypeId)} {g : Tag} (h : callH H T N g ≠ .none) : ∃ h', g = .par h' ∧ ((h' ∈ T ∧ callH H T N g = H h') ∨ (h'.isVar = true ∧ h' ∉ T ∧ ∃ t, callH H T N g = .arr (.slice none 0 0) t [])) := by
  cases g with
  | par h' =>
    by_cases ht : h' ∈ T
    · exact ⟨h', rfl, .inl ⟨ht, by simp [callH, ht]⟩⟩
    · cases hv : h'.isVar with
      | false => simp [callH, ht, hv] at h
      | true =>
        cases hl : lookN N h' with
        | none => simp [callH, ht, hv, hl] at h
        | some t => exact ⟨h', rfl, .inr ⟨hv, ht, t, by simp [callH, ht, hv, hl]⟩⟩
  | _ => exact absurd rfl h
theorem callH_foot {H : Tag → TI} {T : List Tag} {N : List (Tag × TypeId)} {g : Tag} {b : Nat} (h : b ∈ (callH H T N g).foot) : ∃ h', g = .par h' ∧ h' ∈ T ∧ b ∈ (H h').foot := by
  have : callH H T N g ≠ .none := fun e => by rw [e] at h; simp [TI.foot] at h
  obtain ⟨h', e1, ⟨e2, e3⟩ | ⟨_, _, t, e3⟩⟩ := callH_some this
  · exact ⟨h', e1, e2, by rw [← e3]; exact h⟩
  · rw [e3] at h; simp [TI.foot, Value.ownBlock] at h
theorem callH_par {H : Tag → TI} {T : List Tag} {N : List (Tag × TypeId)} {h : Tag} (ht : h ∈ T) : callH H T N (.par h) = H h := by simp [callH, ht]

/-- What may be lent to be written. -/
def lends (H : Tag → TI) (g : Tag) : Prop := (∃ v t xs, H g = .arr v t xs) ∨ (∃ b c ds, H g = .box b c ∧ LV.flats? c = some ds) ∨ (∃ F k v x, H g = .ob F k v x)
theorem lends.some {H : Tag → TI} {g : Tag} (h : lends H g) : H g ≠ .none := by
  rcases h with ⟨v, t, xs, h⟩ | ⟨b, c, ds, h, _⟩ | ⟨F, k, v, x, h⟩ <;> rw [h] <;> simp

/-- The map of what is known of a name, to the leaves of the caller. -/
def joinH (H1 H' : Tag → TI) (T : List Tag) (d : Nat) (φ ρ : LV → LV) (g : Tag) : TI :=
  if g ∈ T then (H' (.par g)).up ρ else match g with
    | .loc d' τ => if d' = d ∧ τ.isPar = false then (H' τ).up ρ else (H1 g).up φ
    | _ => (H1 g).up φ

theorem LV.up_flats {φ : LV → LV} {c : List LV} {ds : List DV} (h : LV.flats? c = some ds) : LV.ups φ c = c := by
  obtain ⟨h1, h2⟩ := LV.flats?_get h
  rw [LV.ups_eq]
  apply List.ext_getElem?
  intro j
  rw [List.getElem?_map, h2 j]
  cases ds[j]? <;> simp [LV.up]

theorem among_mem {L : List Tag} {g : Tag} : among L g = true ↔ g ∈ L := by simp [among]

section
variable {S : Sys} {e : Entry}

theorem Inv.call {Φ1 : Nat → Prop} {H1 : Tag → TI} {σ1 : Env} {a : Act} {w : World} (h : Inv S e Φ1 H1 σ1 a w) {T : List Tag} {N : List (Tag × TypeId)} {us : List (Tag × UI)} {d : Nat} (hf : Fresh H1 d) (hT : ∀ g, g ∈ T → H1 g ≠ .none)
    {w' : World} {Φ' : Nat → Prop} {H' : Tag → TI} (hi : HInv S.C w' Φ' H') (hG : S.C.G w') (fr : Fr w Φ1 (callH H1 T N) w' Φ' H')
    (hus : ∀ g u, g ∈ T → uget us g = some u → (∃ v t xs t' xs', u = .arr t' xs' ∧ H1 g = .arr v t xs ∧ H' (.par g) = .arr v t' xs') ∨ (∃ b c c' ds, u = .box c' ∧ H1 g = .box b c ∧ H' (.par g) = .box b c' ∧ LV.flats? c' = some ds)) :
    ∃ H'', Inv S e Φ' H'' (σ1.up (ufun (VS.turn T us))) a w' ∧ (∀ v r, RA S.C w' Φ' H' v r → RA S.C w' Φ' H'' v (r.up (retL d))) ∧ Pres (some d) H1 H'' := by
  generalize hφ : ufun (VS.turn T us) = φ
  generalize hρ : retL d = ρ
  have hnew : ∀ τ, τ.isPar = false → Tag.loc d τ ∉ T := fun τ hτ ht => hT _ ht (hf τ (fun τ' e1 => by rw [e1] at hτ; cases hτ))
  have jT : ∀ g, g ∈ T → joinH H1 H' T d φ ρ g = (H' (.par g)).up ρ := fun g hg => by simp [joinH, hg]
  have jN : ∀ τ, τ.isPar = false → joinH H1 H' T d φ ρ (.loc d τ) = (H' τ).up ρ := fun τ hτ => by simp [joinH, hnew τ hτ, hτ]
  have jO : ∀ g, g ∉ T → (∀ τ, τ.isPar = false → g ≠ .loc d τ) → joinH H1 H' T d φ ρ g = (H1 g).up φ := by
    intro g hg hn
    unfold joinH
    rw [if_neg hg]
    split
    · rename_i d' τ
      split
      · rename_i hc
        exact absurd (by rw [hc.1]) (hn τ hc.2)
      · rfl
    · rfl
  -- three kinds of names
  have kinds : ∀ g, g ∈ T ∨ (∃ τ, τ.isPar = false ∧ g = .loc d τ) ∨ (g ∉ T ∧ ∀ τ, τ.isPar = false → g ≠ .loc d τ) := by
    intro g
    by_cases hg : g ∈ T
    · exact .inl hg
    · by_cases hx : ∃ τ, τ.isPar = false ∧ g = .loc d τ
      · exact .inr (.inl hx)
      · exact .inr (.inr ⟨hg, fun τ hτ e1 => hx ⟨τ, hτ, e1⟩⟩)
  have jback : ∀ g, g.lost = false → H' g ≠ .none → joinH H1 H' T d φ ρ (back d g) = (H' g).up ρ := by
    intro g hl hg
    cases g with
    | par x =>
      have hv : x.isVar = false := by cases x <;> first | rfl | cases hl
      have hx : x ∈ T := Classical.byContradiction fun hx => hg (fr.par x (by simp [callH, hx, hv]))
      exact jT x hx
    | nil => exact jN .nil rfl
    | loc d' τ => exact jN (.loc d' τ) rfl
    | var t => exact absurd (hi.novar (.var t) rfl) hg
  have bvar : ∀ g : Tag, g.isVar = true → (back d g).isVar = true ∧ g.lost = false := fun g hg => by cases g <;> first | exact ⟨rfl, rfl⟩ | cases hg
  have fρ : Fits S.C w' w' Φ' Φ' H' (joinH H1 H' T d φ ρ) ρ := by
    subst hρ
    refine ⟨fun _ hb => hb, fun _ _ => rfl, fun g t xs v hg h1 => ?_, fun g t hg => ?_, fun g off c b hg => ?_, fun g t xs i off b n cap hg hlt => ?_, fun g k x F v hg h1 => ?_⟩
    · simp only [retL]
      split
      · exact .top v h1
      · rename_i hl
        exact .own _ t xs v (by rw [jback g (by simpa using hl) (by rw [hg]; simp), hg]; rfl) h1
    · obtain ⟨q1, q2⟩ := bvar g hg
      simp only [retL, q2, Bool.false_eq_true, if_false]
      exact .own0 _ t q1
    · simp only [retL]
      split
      · exact .top _ rfl
      · rename_i hl
        exact .ptr _ off _ b (by rw [jback g (by simpa using hl) (by rw [hg]; simp), hg]; rfl)
    · simp only [retL]
      split
      · exact .top _ rfl
      · rename_i hl
        exact .eptr _ t xs i off b n cap (by rw [jback g (by simpa using hl) (by rw [hg]; simp), hg]; rfl) hlt
    · simp only [retL]
      split
      · exact .top v h1
      · rename_i hl
        exact .obj _ k x F v (by rw [jback g (by simpa using hl) (by rw [hg]; simp), hg]; rfl) h1
  -- blocks of the callee's names
  have fromCallee : ∀ x b, b ∈ (H' x).foot → w.heap.size ≤ b ∨ ∃ h', h' ∈ T ∧ b ∈ (H1 h').foot := by
    intro x b hb
    rcases fr.foot x b hb with hx | ⟨h', hx⟩
    · exact .inl hx
    · obtain ⟨h'', _, e2, e3⟩ := callH_foot hx
      exact .inr ⟨h'', e2, e3⟩
  have apart : ∀ x g b, g ∉ T → b ∈ (H' x).foot → b ∈ (H1 g).foot → False := by
    intro x g b hg hb hb'
    rcases fromCallee x b hb with hx | ⟨h', h1, h2⟩
    · have := (h.hi.lt g b hb').2; omega
    · exact hg (h.hi.disj g h' b hb' h2 ▸ h1)
  have old : ∀ g b, g ∉ T → b ∈ (H1 g).foot → w'.heap[b]? = w.heap[b]? := by
    intro g b hg hb
    refine fr.block b (h.hi.lt g b hb).2 (fun x hx => ?_)
    obtain ⟨h', _, h1, h2⟩ := callH_foot hx
    exact hg (h.hi.disj g h' b hb h2 ▸ h1)
  have oldΦ : ∀ b, Φ1 b → w'.heap[b]? = w.heap[b]? := by
    intro b hb
    refine fr.block b (h.hi.phi b hb) (fun x hx => ?_)
    obtain ⟨h', _, h1, h2⟩ := callH_foot hx
    exact h.hi.nophi h' b h2 hb
  have uT : ∀ g, g ∉ T → VS.turn T us g = none := fun g hg => by simp [VS.turn, hg]
  have uT' : ∀ g u, g ∈ T → VS.turn T us g = some u → u = .dead ∨ uget us g = some u := fun g u hg hu => by
    simp only [VS.turn, List.contains_iff_mem, hg, if_true, Option.some.injEq] at hu
    cases hq : uget us g with
    | none => rw [hq] at hu; exact .inl hu.symm
    | some u' => rw [hq] at hu; simp at hu; exact .inr (by rw [hu])
  have fits0 : Fits S.C w w' Φ1 Φ' H1 (fun g => if g ∈ T then joinH H1 H' T d φ ρ g else (H1 g).up φ) φ := by
    subst hφ
    refine fits_ufun fr.phi oldΦ (fun g hg => uT g (fun ht => hT g ht (h.hi.novar g hg))) (fun g hg => ?_) ?_ ?_ ?_ ?_
    · have : g ∉ T := fun ht => by simp [VS.turn, ht] at hg
      simp only [this, if_false]
    · intro g i off ds v t xs hu hb
      have ht : g ∈ T := Classical.byContradiction fun hn => by rw [uT g hn] at hu; cases hu
      rcases uT' g _ ht hu with hq | hq
      · cases hq
      · rcases hus g _ ht hq with ⟨_, _, _, _, _, hx, _⟩ | ⟨_, _, _, _, hx, _⟩ <;> cases hx
    · intro g t' xs' v t xs hu hb
      have ht : g ∈ T := Classical.byContradiction fun hn => by rw [uT g hn] at hu; cases hu
      rcases uT' g _ ht hu with hq | hq
      · cases hq
      · rcases hus g _ ht hq with ⟨v1, t1, xs1, t2, xs2, hx, h2, h3⟩ | ⟨_, _, _, _, hx, _⟩
        · cases hx
          rw [hb] at h2
          cases h2
          simp only [ht, if_true, jT g ht, h3]
          rfl
        · cases hx
    · intro g off ls b c hu hb
      have ht : g ∈ T := Classical.byContradiction fun hn => by rw [uT g hn] at hu; cases hu
      rcases uT' g _ ht hu with hq | hq
      · cases hq
      · rcases hus g _ ht hq with ⟨_, _, _, _, _, hx, _⟩ | ⟨_, _, _, _, hx, _⟩ <;> cases hx
    · intro g c' b c hu hb
      have ht : g ∈ T := Classical.byContradiction fun hn => by rw [uT g hn] at hu; cases hu
      rcases uT' g _ ht hu with hq | hq
      · cases hq
      · rcases hus g _ ht hq with ⟨_, _, _, _, _, hx, _⟩ | ⟨b1, c1, c2, ds, hx, h2, h3, h4⟩
        · cases hx
        · cases hx
          rw [hb] at h2
          cases h2
          simp only [ht, if_true, jT g ht, h3, TI.up, LV.up_flats h4]
  have more : ∀ g, (fun g => if g ∈ T then joinH H1 H' T d φ ρ g else (H1 g).up φ) g ≠ .none → joinH H1 H' T d φ ρ g = (fun g => if g ∈ T then joinH H1 H' T d φ ρ g else (H1 g).up φ) g := by
    intro g hg
    by_cases ht : g ∈ T
    · simp only [ht, if_true]
    · simp only [ht, if_false] at hg ⊢
      refine jO g ht (fun τ hτ e1 => hg ?_)
      rw [e1, hf τ (fun τ' e2 => by rw [e2] at hτ; cases hτ)]
      rfl
  have fφ : Fits S.C w w' Φ1 Φ' H1 (joinH H1 H' T d φ ρ) φ :=
    ⟨fits0.phi, fits0.agree, fun g t xs v h1 h2 => (fits0.own g t xs v h1 h2).more more, fun g t hg => (fits0.own0 g t hg).more more,
      fun g off c b hg => (fits0.ptr g off c b hg).more more, fun g t xs i off b n cap hg hlt => (fits0.eptr g t xs i off b n cap hg hlt).more more, fun g k x F v hg h1 => (fits0.obj g k x F v hg h1).more more⟩
  -- the blocks of each kind
  have footJ : ∀ g b, b ∈ (joinH H1 H' T d φ ρ g).foot → (∃ x, b ∈ (H' x).foot ∧ ((g ∈ T ∧ x = .par g) ∨ (x.isPar = false ∧ g = .loc d x))) ∨ (g ∉ T ∧ b ∈ (H1 g).foot) := by
    intro g b hb
    rcases kinds g with hg | ⟨τ, hτ, rfl⟩ | ⟨hg, hn⟩
    · rw [jT g hg, TI.foot_up] at hb; exact .inl ⟨_, hb, .inl ⟨hg, rfl⟩⟩
    · rw [jN τ hτ, TI.foot_up] at hb; exact .inl ⟨τ, hb, .inr ⟨hτ, rfl⟩⟩
    · rw [jO g hg hn, TI.foot_up] at hb; exact .inr ⟨hg, hb⟩
  refine ⟨joinH H1 H' T d φ ρ, ?_, fun v r hr => hr.up fρ, fun d' τ hne h0 => ?_⟩
  · exact
    { hi :=
      { disj := fun g g' b h1 h2 => by
          rcases footJ g b h1 with ⟨x, hx, hk⟩ | ⟨hg, hx⟩
          · rcases footJ g' b h2 with ⟨y, hy, hk'⟩ | ⟨hg', hy⟩
            · have hxy := hi.disj x y b hx hy
              subst hxy
              rcases hk with ⟨_, rfl⟩ | ⟨hp, rfl⟩
              · rcases hk' with ⟨_, he⟩ | ⟨hp', _⟩
                · injection he
                · cases hp'
              · rcases hk' with ⟨_, rfl⟩ | ⟨_, he⟩
                · cases hp
                · exact he.symm
            · exact (apart x g' b hg' hx hy).elim
          · rcases footJ g' b h2 with ⟨y, hy, hk'⟩ | ⟨hg', hy⟩
            · exact (apart y g b hg hy hx).elim
            · exact h.hi.disj g g' b hx hy
        nophi := fun g b h1 hp => by
          rcases footJ g b h1 with ⟨x, hx, _⟩ | ⟨hg, hx⟩
          · exact hi.nophi x b hx hp
          · rcases fr.phi' b hp with hp | hp | ⟨x, hp⟩
            · exact h.hi.nophi g b hx hp
            · have := (h.hi.lt g b hx).2; omega
            · obtain ⟨h', _, e1, e2⟩ := callH_foot hp
              exact hg (h.hi.disj g h' b hx e2 ▸ e1)
        lt := fun g b h1 => by
          rcases footJ g b h1 with ⟨x, hx, _⟩ | ⟨hg, hx⟩
          · exact hi.lt x b hx
          · exact ⟨(h.hi.lt g b hx).1, Nat.lt_of_lt_of_le (h.hi.lt g b hx).2 fr.size⟩
        phi := hi.phi
        ok := fun g => by
          rcases kinds g with hg | ⟨τ, hτ, rfl⟩ | ⟨hg, hn⟩
          · rw [jT g hg]; exact (hi.ok _).up fρ (fun _ _ => rfl)
          · rw [jN τ hτ]; exact (hi.ok _).up fρ (fun _ _ => rfl)
          · rw [jO g hg hn]; exact (h.hi.ok g).up fφ (fun b hb => old g b hg hb)
        novar := fun g hv => by
          rcases kinds g with hg | ⟨τ, hτ, rfl⟩ | ⟨hg, hn⟩
          · exact absurd (h.hi.novar g hv) (hT g hg)
          · cases hv
          · rw [jO g hg hn, h.hi.novar g hv]; rfl }
      env := fun t => by rw [Env.get_up]; exact (h.env t).up fφ
      G := hG
      n := h.n
      defers := h.defers
      fr :=
      { size := Nat.le_trans h.fr.size fr.size
        os := fr.os.trans h.fr.os
        tape := fr.tape.trans h.fr.tape
        output := fr.output.trans h.fr.output
        block := fun b hb hn => by
          rw [fr.block b (Nat.lt_of_lt_of_le hb h.fr.size) (fun x hx => ?_)]
          · exact h.fr.block b hb hn
          · obtain ⟨h', _, _, e2⟩ := callH_foot hx
            rcases h.fr.foot h' b e2 with hq | ⟨h'', hq⟩
            · omega
            · exact hn h'' hq
        phi := fun b hb => fr.phi b (h.fr.phi b hb)
        phi' := fun b hb => by
          rcases fr.phi' b hb with hp | hp | ⟨x, hp⟩
          · exact h.fr.phi' b hp
          · exact .inr (.inl (Nat.le_trans h.fr.size hp))
          · obtain ⟨h', _, _, e2⟩ := callH_foot hp
            rcases h.fr.foot h' b e2 with hq | ⟨h'', hq⟩
            · exact .inr (.inl hq)
            · exact .inr (.inr ⟨h'', hq⟩)
        foot := fun g b hb => by
          rcases footJ g b hb with ⟨x, hx, _⟩ | ⟨hg, hx⟩
          · rcases fromCallee x b hx with hq | ⟨h', _, hq⟩
            · exact .inl (Nat.le_trans h.fr.size hq)
            · exact h.fr.foot h' b hq
          · exact h.fr.foot g b hx
        par := fun g hg => by
          have h0 := h.fr.par g hg
          have : Tag.par g ∉ T := fun ht => hT _ ht h0
          rw [jO _ this (fun τ _ e1 => by cases e1), h0]
          rfl } }
  · have h1 : Tag.loc d' τ ∉ T := fun ht => hT _ ht h0
    have hd : d' ≠ d := fun e1 => hne (by rw [e1])
    rw [jO _ h1 (fun τ' _ e1 => by injection e1 with e1; exact hd e1), h0]
    rfl
end
end Go.VS
