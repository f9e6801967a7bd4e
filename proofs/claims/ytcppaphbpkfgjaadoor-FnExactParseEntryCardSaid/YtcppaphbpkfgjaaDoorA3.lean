/- A value semantics of Go code, sound for the model. -/
import Derived.Test.YtcppaphbpkfgjaaDoorA2
import Derived.DataBytes
namespace Go.VS
open Go Go.RowKit
set_option linter.unusedVariables false

attribute [go_sem] SOp.bare Env.eval Env.get Env.prune Env.up ageE AV.leaves AV.up LV.up LV.ups AV.ups optInt constA constL wBool isConst LV.isNil LV.rows?
@[go_sem] theorem ex_view {a X : AV} {C : Prop} : (∃ r', view a r' ∧ r' = X ∧ C) ↔ view a X ∧ C := ⟨fun ⟨r, h1, h2, h3⟩ => h2 ▸ ⟨h1, h3⟩, fun ⟨h1, h2⟩ => ⟨X, h1, rfl, h2⟩⟩
@[go_sem] theorem ex_two {X : AV} {Z : List AV} : (∃ r o, r = X ∧ o = Z) ↔ True := ⟨fun _ => trivial, fun _ => ⟨X, Z, rfl, rfl⟩⟩
@[go_sem] theorem all_two {X : AV} {Z : List AV} {P : AV → List AV → Prop} : (∀ r o, r = X ∧ o = Z → P r o) ↔ P X Z := ⟨fun h => h X Z ⟨rfl, rfl⟩, fun h r o ⟨h1, h2⟩ => h1 ▸ h2 ▸ h⟩
@[go_sem] theorem ex_one {X : AV} : (∃ r, ∃ _ : List AV, r = X) ↔ True := ⟨fun _ => trivial, fun _ => ⟨X, [], rfl⟩⟩
@[go_sem] theorem all_one {X : AV} {P : AV → List AV → Prop} : (∀ r o, r = X → P r o) ↔ ∀ o, P X o := ⟨fun h o => h X o rfl, fun h r o h1 => h1 ▸ h o⟩
attribute [go_sem] LV.flats? LV.flat? ufun single LV.noTags LV.noTag turn uget List.getD_cons_zero
attribute [go_sem] Option.getD_some Option.getD_none frz fillL fillLs AV.fill nilL nilLs nilA nilAs retL Tag.lost Tag.isVar ren age back List.headD_cons List.headD_nil List.nodup_nil List.nodup_cons List.not_mem_nil List.mem_cons merge_and merge_and' merge_or merge_or' pickA AV.bool? lookX pass AV.snap LV.snap LV.snaps LV.snapCaps AV.lend LV.lend LV.lends outs outA outL outLs AV.scalar AV.scalar1 LV.scalar LV.scalars DV.scalar AV.scalars among List.contains_cons List.contains_nil wEnd wResults res1 outsFrom Env.adopt adoptTmp
@[go_sem] theorem view_one {l m : LV} : view (.one l) (.one m) ↔ viewL l m := Iff.rfl
@[go_sem] theorem view_agg {l m : List LV} : view (.agg l) (.agg m) ↔ viewLs l m := Iff.rfl
@[go_sem] theorem view_tup {l m : List AV} : view (.tup l) (.tup m) ↔ views l m := Iff.rfl
@[go_sem] theorem view1_one {l m : LV} : view1 (.one l) (.one m) ↔ viewL l m := Iff.rfl
@[go_sem] theorem view1_agg {l m : List LV} : view1 (.agg l) (.agg m) ↔ viewLs l m := Iff.rfl
@[go_sem] theorem views_cons {a b : AV} {r s : List AV} : views (a :: r) (b :: s) ↔ view1 a b ∧ views r s := Iff.rfl
@[go_sem] theorem views_nil : views [] [] ↔ True := Iff.rfl
@[go_sem] theorem viewLs_cons {a b : LV} {r s : List LV} : viewLs (a :: r) (b :: s) ↔ viewL a b ∧ viewLs r s := Iff.rfl
@[go_sem] theorem viewLs_nil : viewLs [] [] ↔ True := Iff.rfl
@[go_sem] theorem viewL_int {k : IntKind} {a b : Int} : viewL (.d (.int k a)) (.d (.int k b)) ↔ a = b := by simp [viewL]
@[go_sem] theorem viewL_bool {a b : Bool} : viewL (.d (.bool a)) (.d (.bool b)) ↔ a = b := by simp [viewL]
@[go_sem] theorem viewL_str {a b : ByteArray} : viewL (.d (.str a)) (.d (.str b)) ↔ a = b := by simp [viewL]
@[go_sem] theorem viewL_list {e e' : Nat} {a b : List (List DV)} : viewL (.d (.list e a)) (.d (.list e' b)) ↔ e = e' ∧ a = b := by simp [viewL]
@[go_sem] theorem viewL_nil {e : Nat} {b : List (List DV)} : viewL (.d .nil) (.d (.list e b)) ↔ b = [] := by simp [viewL]
@[go_sem] theorem viewL_refl {l : LV} : viewL l l ↔ True := by simp [viewL]
attribute [go_sem] exists_eq_right List.getElem?_cons_zero List.getElem?_cons_succ List.length_cons List.length_nil List.drop_zero List.drop_succ_cons List.take_zero List.take_succ_cons Int.natCast_nonneg Int.ofNat_lt Int.ofNat_le Int.toNat_natCast decide_eq_true_eq decide_eq_false_iff_not Nat.zero_add Nat.reduceAdd
attribute [go_sem] true_and and_true and_self if_true if_false ite_true ite_false false_and imp_self forall_const true_implies implies_true exists_const exists_eq exists_eq_left forall_eq forall_eq' cond_true cond_false Bool.not_true Bool.not_false Bool.true_and Bool.and_true Bool.false_and Bool.and_false Bool.or_false Bool.false_or Bool.true_or Bool.or_true Int.zero_add Int.add_zero Option.map_some Option.map_none List.map_cons List.map_nil List.cons_append List.nil_append List.append_nil
theorem gs_zero {o : Oper} {r : List Oper} : guardSlot (o :: r) 0 = o.dst := rfl
theorem gs_succ {o : Oper} {r : List Oper} {n : Nat} : guardSlot (o :: r) (n + 1) = guardSlot r n := rfl
/-! What comes behind is kept as the operations that are left: a rule fires when what it asks is known. -/
section
variable (S : Sys) (draw : Bool)
def oGo (σ : Env) (rest : List SOp) (K : Env → Prop) : Prop := vOps S draw rest σ K
def oPut (d : Option Tmp) (v : AV) (σ : Env) (rest : List SOp) (K : Env → Prop) : Prop := wPut S d v σ (fun σ' => vOps S draw rest σ' K)
def oOp (d : Option Tmp) (op : Op) (σ : Env) (rest : List SOp) (K : Env → Prop) : Prop := wOp S draw true (SOp.bare d op) σ (fun σ' => vOps S draw rest σ' K)
def oSkip (a : AV) (w : Bool) (d : Option Tmp) (op : Op) (σ : Env) (rest : List SOp) (K : Env → Prop) : Prop := wSkip a w (oOp S draw d op σ rest K) (oPut S draw d (.tup []) σ rest K)
def oPick (c a b : AV) (d : Option Tmp) (σ : Env) (rest : List SOp) (K : Env → Prop) : Prop := wBool c fun t => wPut S d (pickA t a b) σ (fun σ' => vOps S draw rest σ' K)
def oPart (t : TypeId) (c : List LV) (off : Nat) (d : Option Tmp) (σ : Env) (rest : List SOp) (K : Env → Prop) : Prop := wPart S t c off fun v => wPut S d v σ (fun σ' => vOps S draw rest σ' K)
def oLoad (t : TypeId) (a : AV) (d : Option Tmp) (σ : Env) (rest : List SOp) (K : Env → Prop) : Prop := wLoad S t a fun v => wPut S d v σ (fun σ' => vOps S draw rest σ' K)
def oIdx (t : TypeId) (a i : AV) (d : Option Tmp) (σ : Env) (rest : List SOp) (K : Env → Prop) : Prop := wIndexAddr S t a i fun v => wPut S d v σ (fun σ' => vOps S draw rest σ' K)
def oInt (op : BinOp) (kd : IntKind) (a b : Int) (d : Option Tmp) (σ : Env) (rest : List SOp) (K : Env → Prop) : Prop := wInt op kd a b fun v => wPut S d (.one (.d v)) σ (fun σ' => vOps S draw rest σ' K)
def oNil (op : BinOp) (t : TypeId) (y : Operand) (l : LV) (d : Option Tmp) (σ : Env) (rest : List SOp) (K : Env → Prop) : Prop := wNil S op t y l fun v => wPut S d (.one (.d v)) σ (fun σ' => vOps S draw rest σ' K)
def oConvB (src dst : TypeId) (l : LV) (d : Option Tmp) (σ : Env) (rest : List SOp) (K : Env → Prop) : Prop := wConvB S src dst l fun v => wPut S d (.one (.d v)) σ (fun σ' => vOps S draw rest σ' K)
def oAppend (t : Tmp) (e : TypeId) (a b : AV) (σ : Env) (rest : List SOp) (K : Env → Prop) : Prop := wAppend S true t e a b σ fun v σ' => wPut S (some t) v σ' (fun σ' => vOps S draw rest σ' K)
def oSlice (t : TypeId) (a : AV) (lo hi : Option AV) (d : Option Tmp) (σ : Env) (rest : List SOp) (K : Env → Prop) : Prop := wSlice S draw t a lo hi σ fun v σ' => wPut S d v σ' (fun σ' => vOps S draw rest σ' K)
def oCall (d : Option Tmp) (n : FuncId) (args : List AV) (σ : Env) (rest : List SOp) (K : Env → Prop) : Prop := wCall S draw d n args σ (fun σ' => vOps S draw rest σ' K)
def oRet (d : Option Tmp) (T L : List Tag) (args : List AV) (σ : Env) (rest : List SOp) (K : Env → Prop) (r : AV) (o : List AV) : Prop :=
  if T = [] ∧ r.scalar = true then oPut S draw d r σ rest K
  else match d with
    | none => False
    | some d => if T = [] ∧ L = [] then oPut S draw (some d) (r.up (retL d)) σ rest K
      else draw = false ∧ oPut S draw (some d) (r.up (retL d)) ((σ.up (frz S.C.P (among L))).up (ufun (turn T (outs args o)))) rest K
def oAll (d : Option Tmp) (T L : List Tag) (args : List AV) (σ : Env) (rest : List SOp) (K : Env → Prop) (R : AV → List AV → Prop) : Prop := ∀ r o, R r o → oRet S draw d T L args σ rest K r o
end
section
variable {S : Sys} {draw : Bool} {d : Option Tmp} {σ : Env} {K : Env → Prop} {rest : List SOp}
@[go_sem] theorem oGo_eq : oGo S draw σ rest K = vOps S draw rest σ K := rfl
@[go_sem ↓] theorem vOps_nil : vOps S draw [] σ K = K σ := rfl
@[go_sem ↓] theorem vOps_bare {op : Op} : vOps S draw (⟨d, op, none⟩ :: rest) σ K = oOp S draw d op σ rest K := rfl
@[go_sem ↓] theorem vOps_guard {op : Op} {t : Tmp} {w : Bool} : vOps S draw (⟨d, op, some (some t, w)⟩ :: rest) σ K = (t < S.n ∧ oSkip S draw (σ.get t) w d op σ rest K) := rfl
@[go_sem] theorem oSkip_tt {op : Op} : oSkip S draw (.one (.d (.bool true))) true d op σ rest K = oOp S draw d op σ rest K := by simp [oSkip, wSkip]
@[go_sem] theorem oSkip_tf {op : Op} : oSkip S draw (.one (.d (.bool true))) false d op σ rest K = oPut S draw d (.tup []) σ rest K := by simp [oSkip, wSkip]
@[go_sem] theorem oSkip_ft {op : Op} : oSkip S draw (.one (.d (.bool false))) true d op σ rest K = oPut S draw d (.tup []) σ rest K := by simp [oSkip, wSkip]
@[go_sem] theorem oSkip_ff {op : Op} : oSkip S draw (.one (.d (.bool false))) false d op σ rest K = oOp S draw d op σ rest K := by simp [oSkip, wSkip]
@[go_sem] theorem oSkip_no {op : Op} {w : Bool} : oSkip S draw (.tup []) w d op σ rest K = oPut S draw d (.tup []) σ rest K := rfl
@[go_sem] theorem oPut_some {t : Tmp} {v : AV} : oPut S draw (some t) v σ rest K = (t < S.n ∧ vOps S draw rest ((t, v) :: σ) K) := rfl
@[go_sem] theorem oPut_none {v : AV} : oPut S draw none v σ rest K = vOps S draw rest σ K := rfl
@[go_sem ↓] theorem oOp_move {x : Operand} : oOp S draw d (.move x) σ rest K = oPut S draw d (σ.eval S.n x) σ rest K := rfl
@[go_sem ↓] theorem oOp_assign {x : Operand} : oOp S draw d (.assign x) σ rest K = oPut S draw d (σ.eval S.n x) σ rest K := rfl
@[go_sem ↓] theorem oOp_pick {a b c : Operand} : oOp S draw d (.pick c a b) σ rest K = oPick S draw (σ.eval S.n c) (σ.eval S.n a) (σ.eval S.n b) d σ rest K := rfl
@[go_sem ↓] theorem oOp_load {t : TypeId} {a : Operand} : oOp S draw d (.load t a) σ rest K = oLoad S draw t (σ.eval S.n a) d σ rest K := rfl
@[go_sem ↓] theorem oOp_store {t : TypeId} {a x : Operand} : oOp S draw d (.store t a x) σ rest K = (d = none ∧ match (σ.eval S.n x).leaves with
  | none => False
  | some ls => S.C.P.cellsOf t ≠ 0 ∧
    match (σ.eval S.n a) with
    | .one (.ptr g off c) => ls.length = S.C.P.cellsOf t ∧ off + ls.length ≤ c.length ∧ LV.noTags g ls = true ∧ oGo S draw (σ.up (ufun (single g (.cells off ls)))) rest K
    | .one (.eptr g t' xs i off) => match LV.flats? ls with
      | none => False
      | some ds => ds.length = S.C.P.cellsOf t ∧ off + ds.length ≤ S.C.P.cellsOf t' ∧ oGo S draw (σ.up (ufun (single g (.row i off ds)))) rest K
    | _ => False) := by
  simp only [oOp, wOp, SOp.bare, true_and]
  rfl
@[go_sem ↓] theorem oOp_fieldAddr {s : TypeId} {x : Operand} {f : Nat} : oOp S draw d (.fieldAddr s x f) σ rest K = (match tOff S.C.P s f with
  | none => False
  | some (o, ft) => S.C.P.cellsOf ft ≠ 0 ∧
    match (σ.eval S.n x) with
    | .one (.ptr g off c) => oPut S draw d (.one (.ptr g (off + o) c)) σ rest K
    | .one (.dptr c off) => oPut S draw d (.one (.dptr c (off + o))) σ rest K
    | .one (.eptr g t xs i off) => oPut S draw d (.one (.eptr g t xs i (off + o))) σ rest K
    | _ => False) := by
  unfold oOp wOp SOp.bare wField
  dsimp only
  cases tOff S.C.P s f with
  | none => rfl
  | some p => cases σ.eval S.n x with
    | one l => cases l <;> rfl
    | _ => rfl
@[go_sem ↓] theorem oOp_indexAddr {t : TypeId} {x i : Operand} : oOp S draw d (.indexAddr t x i) σ rest K = oIdx S draw t (σ.eval S.n x) (σ.eval S.n i) d σ rest K := rfl
@[go_sem ↓] theorem oOp_index {t : TypeId} {x i : Operand} : oOp S draw d (.index t x i) σ rest K = (match (σ.eval S.n x), (σ.eval S.n i), S.C.P.underlying t with
    | .one (.d (.str s)), .one (.d (.int _ n)), some .string => 0 ≤ n ∧ n < s.size ∧ oPut S draw d (.one (.d (.int .u8 (byteAt s n)))) σ rest K
    | _, _, _ => False) := rfl
@[go_sem ↓] theorem oOp_field {t : TypeId} {x : Operand} {f : Nat} : oOp S draw d (.field t x f) σ rest K = (match tOff S.C.P t f, (σ.eval S.n x) with
    | some (off, ft), .agg ls => oPart S draw ft ls off d σ rest K
    | _, _ => False) := rfl
@[go_sem ↓] theorem oOp_binOp {p : BinOp} {t u : TypeId} {x y : Operand} : oOp S draw d (.binOp p t x y u) σ rest K = (match (σ.eval S.n x), (σ.eval S.n y) with
  | .one (.d (.int ka m)), .one (.d (.int kb n)) =>
    match p with
    | .shl => 0 ≤ n ∧ oPut S draw d (.one (.d (.int ka (ka.wrap (m * 2 ^ (min n.toNat ka.bits)))))) σ rest K
    | .shr => 0 ≤ n ∧ oPut S draw d (.one (.d (.int ka (m.fdiv (2 ^ (min n.toNat ka.bits)))))) σ rest K
    | _ => ka = kb ∧ oInt S draw p ka m n d σ rest K
  | .one (.d (.str m)), .one (.d (.str n)) =>
    match p with
    | .add => m.size + n.size ≤ 9223372036854775807 ∧ oPut S draw d (.one (.d (.str (m ++ n)))) σ rest K
    | .eql => oPut S draw d (.one (.d (.bool (m.toList == n.toList)))) σ rest K
    | .neq => oPut S draw d (.one (.d (.bool (!(m.toList == n.toList))))) σ rest K
    | _ => False
  | .one (.d (.bool m)), .one (.d (.bool n)) =>
    tBool S.C.P t = true ∧ match p with
    | .eql => oPut S draw d (.one (.d (.bool (m == n)))) σ rest K
    | .neq => oPut S draw d (.one (.d (.bool (!(m == n))))) σ rest K
    | _ => False
  | .one (.d (.err m)), .one (.d (.err false)) =>
    tIface S.C.P t = true ∧ isConst y = true ∧ match p with
    | .eql => oPut S draw d (.one (.d (.bool (!m)))) σ rest K
    | .neq => oPut S draw d (.one (.d (.bool m))) σ rest K
    | _ => False
  | .one l, .one (.d .nil) => oNil S draw p t y l d σ rest K
  | _, _ => False) := rfl
@[go_sem ↓] theorem oOp_unOp {p : UnOp} {t : TypeId} {x : Operand} : oOp S draw d (.unOp p t x) σ rest K = (match p, (σ.eval S.n x) with
    | .not, .one (.d (.bool b)) => oPut S draw d (.one (.d (.bool (!b)))) σ rest K
    | .neg, .one (.d (.int kd n)) => oPut S draw d (.one (.d (.int kd (kd.wrap (0 - n))))) σ rest K
    | _, _ => False) := rfl
@[go_sem ↓] theorem oOp_convert {src dst : TypeId} {x : Operand} : oOp S draw d (.convert src dst x) σ rest K = (match (σ.eval S.n x) with
  | .one (.d (.int _ n)) => match S.C.P.underlying src, S.C.P.underlying dst with
    | some (.int _), some (.int kd) => oPut S draw d (.one (.d (.int kd (kd.wrap n)))) σ rest K
    | _, _ => False
  | .one (.d (.str s)) => match S.C.P.underlying src, S.C.P.underlying dst with
    | some .string, some .string => oPut S draw d (.one (.d (.str s))) σ rest K
    | _, _ => False
  | .one l => oConvB S draw src dst l d σ rest K
  | _ => False) := rfl
@[go_sem ↓] theorem oOp_extract {x : Operand} {i : Nat} : oOp S draw d (.extract x i) σ rest K = (match (σ.eval S.n x) with
    | .tup vs => match vs[i]? with | some v => oPut S draw d v σ rest K | none => False
    | _ => False) := rfl
@[go_sem ↓] theorem oOp_nilCheck {x : Operand} : oOp S draw d (.nilCheck x) σ rest K = (match (σ.eval S.n x) with
    | .one (.ptr g off c) => oPut S draw d (.one (.ptr g off c)) σ rest K
    | .one (.eptr g t xs i off) => oPut S draw d (.one (.eptr g t xs i off)) σ rest K
    | .one (.dptr c off) => oPut S draw d (.one (.dptr c off)) σ rest K
    | _ => False) := rfl
@[go_sem ↓] theorem oOp_box {t : TypeId} {x : Operand} : oOp S draw d (.box t x) σ rest K = (match d, (σ.eval S.n x).leaves with
    | some d, some ls => oPut S draw (some d) (.one (.ptr (.loc d .nil) 0 ls)) σ rest K
    | _, _ => False) := rfl
@[go_sem ↓] theorem oOp_alloc {t : TypeId} : oOp S draw d (.alloc t) σ rest K = (match d, (tZero S.C.P t).bind zeroL with
    | some d, some ds => oPut S draw (some d) (.one (.ptr (.loc d .nil) 0 (ds.map .d))) σ rest K
    | _, _ => False) := rfl
@[go_sem ↓] theorem oOp_build {t : TypeId} {parts : Array (Nat × Operand)} : oOp S draw d (.build t parts) σ rest K = (match tPlaces S.C.P t, (tZero S.C.P t).bind zeroL with
    | true, some ds => match wParts S t (σ.eval S.n) parts.toList (ds.map .d) with
      | some ls => oPut S draw d (.agg ls) σ rest K
      | none => False
    | _, _ => False) := rfl
@[go_sem ↓] theorem oOp_makeFunc {f : FuncId} {captured : Array Operand} : oOp S draw d (.makeFunc (.func f) #[] captured) σ rest K = (match capsOf (σ.eval S.n) captured.toList with
    | some ls => oPut S draw d (.one (.clo f ls)) σ rest K
    | none => False) := by
  simp only [oOp, wOp, SOp.bare, true_and]
  rfl
@[go_sem ↓] theorem oOp_buildSlice {t : TypeId} {len : Nat} {parts : Array (Nat × Operand)} : oOp S draw d (.buildSlice t len parts) σ rest K = (match d, tElem S.C.P t with
    | some d, some e => match (tZero S.C.P e).bind (zeroR S.C.P e) with
      | some z => z.length = S.C.P.cellsOf e ∧ S.C.P.cellsOf e ≠ 0 ∧ len * S.C.P.cellsOf e ≤ 65536 ∧ match wRows S (S.C.P.cellsOf e) (σ.eval S.n) parts.toList (List.replicate len z) [] with
        | some (xs, T) => match decide (len = 0), T with
            | true, _ => oPut S draw (some d) (.one (.own (.loc d .nil) e [])) σ rest K
            | false, [] => oPut S draw (some d) (.one (.own (.loc d .nil) e xs)) σ rest K
            | false, g :: T => draw = false ∧ oPut S draw (some d) (.one (.own (.loc d .nil) e xs)) (σ.up (frz S.C.P (among (g :: T)))) rest K
        | none => False
      | none => False
    | _, _ => False) := by
  simp only [oOp, wOp, SOp.bare]
  cases d with
  | none => rfl
  | some d =>
    cases tElem S.C.P t with
    | none => rfl
    | some e =>
      dsimp only
      cases (tZero S.C.P e).bind (zeroR S.C.P e) with
      | none => rfl
      | some z =>
        dsimp only
        rcases wRows S (S.C.P.cellsOf e) (σ.eval S.n) parts.toList (List.replicate len z) [] with _ | ⟨xs, T⟩
        · rfl
        · dsimp only
          by_cases hl : len = 0
          · simp [hl, oPut]
          · cases T <;> simp [hl, oPut]
@[go_sem ↓] theorem oOp_makeSlice {t : TypeId} {len cap : Operand} : oOp S draw d (.makeSlice t len cap) σ rest K = (match d, tElem S.C.P t, (σ.eval S.n len), (σ.eval S.n cap) with
    | some d, some e, .one (.d (.int _ m)), .one (.d (.int _ n)) => match (tZero S.C.P e).bind (zeroR S.C.P e) with
      | some z => z.length = S.C.P.cellsOf e ∧ m = n ∧ 0 ≤ n ∧ n ≤ maxMade ∧ S.C.P.bytesOf e ≤ 65536 ∧ S.C.P.cellsOf e ≠ 0 ∧
          oPut S draw (some d) (.one (.own (.loc d .nil) e (List.replicate n.toNat z))) σ rest K
      | none => False
    | _, _, _, _ => False) := rfl
@[go_sem ↓] theorem oOp_slice {t : TypeId} {x : Operand} {lo hi : Option Operand} : oOp S draw d (.slice t x lo hi none) σ rest K = oSlice S draw t (σ.eval S.n x) (lo.map (σ.eval S.n)) (hi.map (σ.eval S.n)) d σ rest K := rfl
def oMM (S : Sys) (draw m : Bool) (l : List AV) (d : Option Tmp) (σ : Env) (rest : List SOp) (K : Env → Prop) : Prop := wMinMax m l fun v => wPut S d (.one (.d v)) σ fun σ' => vOps S draw rest σ' K
def oLen (S : Sys) (draw : Bool) (t : TypeId) (a : AV) (d : Option Tmp) (σ : Env) (rest : List SOp) (K : Env → Prop) : Prop := wLen S draw t a fun v => wPut S d v σ fun σ' => vOps S draw rest σ' K
@[go_sem] theorem oMM_max {ka kb : IntKind} {m n : Int} : oMM S draw true [.one (.d (.int ka m)), .one (.d (.int kb n))] d σ rest K = (ka = kb ∧ oPut S draw d (.one (.d (.int ka (max m n)))) σ rest K) := rfl
@[go_sem] theorem oMM_min {ka kb : IntKind} {m n : Int} : oMM S draw false [.one (.d (.int ka m)), .one (.d (.int kb n))] d σ rest K = (ka = kb ∧ oPut S draw d (.one (.d (.int ka (min m n)))) σ rest K) := by simp [oMM, wMinMax, oPut]
@[go_sem] theorem oLen_str {t : TypeId} {s : ByteArray} : oLen S draw t (.one (.d (.str s))) d σ rest K = (tStr S.C.P t = true ∧ oPut S draw d (.one (.d (.int .i64 s.size))) σ rest K) := rfl
@[go_sem] theorem oLen_nil {t : TypeId} : oLen S draw t (.one (.d .nil)) d σ rest K = (tSlice S.C.P t = true ∧ oPut S draw d (.one (.d (.int .i64 0))) σ rest K) := rfl
@[go_sem] theorem oLen_list {t : TypeId} {e : Nat} {xs : List (List DV)} : oLen S draw t (.one (.d (.list e xs))) d σ rest K = (tSlice S.C.P t = true ∧ ((draw = false → xs.length ≤ 9223372036854775807) → oPut S draw d (.one (.d (.int .i64 xs.length))) σ rest K)) := rfl
@[go_sem] theorem oLen_own {t e : TypeId} {g : Tag} {xs : List (List DV)} : oLen S draw t (.one (.own g e xs)) d σ rest K = (tSlice S.C.P t = true ∧ ((draw = false → xs.length ≤ 9223372036854775807) → oPut S draw d (.one (.d (.int .i64 xs.length))) σ rest K)) := rfl
@[go_sem ↓] theorem oOp_call {c : Call} : oOp S draw d (.call c) σ rest K = (match c.callee with
  | .builtin .len => match c.args.toList, c.argTypes.toList with
    | [x], [t] => oLen S draw t (σ.eval S.n x) d σ rest K
    | _, _ => False
  | .builtin .append => match d, c.args.toList, c.argTypes.toList with
    | some d, [x, y], [t, t'] => match tElem S.C.P t with
      | some e => t' = t ∧ (tZero S.C.P e).map List.length = some (S.C.P.cellsOf e) ∧ oAppend S draw d e (σ.eval S.n x) (σ.eval S.n y) σ rest K
      | none => False
    | _, _, _ => False
  | .builtin .max => match c.args.toList with
    | [x, y] => oMM S draw true [σ.eval S.n x, σ.eval S.n y] d σ rest K
    | _ => False
  | .builtin .min => match c.args.toList with
    | [x, y] => oMM S draw false [σ.eval S.n x, σ.eval S.n y] d σ rest K
    | _ => False
  | .value f => match σ.eval S.n f with
    | .one (.clo f caps) => oCall S draw d f (c.args.toList.map (σ.eval S.n) ++ caps.map .one) σ rest K
    | .one (.d (.fn f caps)) => oCall S draw d f (c.args.toList.map (σ.eval S.n) ++ caps.map (fun c => .one (.d c))) σ rest K
    | _ => False
  | _ => False) := rfl
@[go_sem low] theorem oOp_eq {op : Op} : oOp S draw d op σ rest K = wOp S draw true (SOp.bare d op) σ (fun σ' => vOps S draw rest σ' K) := rfl
@[go_sem] theorem oPick_bool {t : Bool} {a b : AV} : oPick S draw (.one (.d (.bool t))) a b d σ rest K = oPut S draw d (pickA t a b) σ rest K := rfl
@[go_sem high] theorem pickA_true {x y : AV} : pickA true x y = x := by
  unfold pickA
  split
  · rename_i p q h1 h2
    cases x with
    | one l => cases l with
      | d v => cases v <;> simp_all [AV.bool?]
      | _ => simp_all [AV.bool?]
    | _ => simp_all [AV.bool?]
  · rfl
@[go_sem high] theorem pickA_false {x y : AV} : pickA false x y = y := by
  unfold pickA
  split
  · rename_i p q h1 h2
    cases y with
    | one l => cases l with
      | d v => cases v <;> simp_all [AV.bool?]
      | _ => simp_all [AV.bool?]
    | _ => simp_all [AV.bool?]
  · rfl
@[go_sem] theorem oPart_eq {t : TypeId} {c : List LV} {off : Nat} : oPart S draw t c off d σ rest K = (S.C.P.cellsOf t ≠ 0 ∧ off + S.C.P.cellsOf t ≤ c.length ∧
  match tAgg S.C.P t with
  | some true => oPut S draw d (.agg ((c.drop off).take (S.C.P.cellsOf t))) σ rest K
  | some false => match c[off]? with | some l => oPut S draw d (.one l) σ rest K | none => False
  | none => False) := rfl
@[go_sem] theorem oLoad_ptr {t : TypeId} {g : Tag} {off : Nat} {c : List LV} : oLoad S draw t (.one (.ptr g off c)) d σ rest K = oPart S draw t c off d σ rest K := rfl
@[go_sem] theorem oLoad_dptr {t : TypeId} {off : Nat} {c : List DV} : oLoad S draw t (.one (.dptr c off)) d σ rest K = oPart S draw t (c.map .d) off d σ rest K := rfl
@[go_sem low] theorem oLoad_eptr {t t' : TypeId} {g : Tag} {i off : Nat} {xs : List (List DV)} : oLoad S draw t (.one (.eptr g t' xs i off)) d σ rest K = oPart S draw t ((xs.getD i []).map .d) off d σ rest K := rfl
@[go_sem] theorem oIdx_own {t t' : TypeId} {g : Tag} {xs : List (List DV)} {kd : IntKind} {n : Int} : oIdx S draw t (.one (.own g t' xs)) (.one (.d (.int kd n))) d σ rest K = (match tElem S.C.P t with | some e => S.C.P.cellsOf e = S.C.P.cellsOf t' ∧ S.C.P.cellsOf e ≠ 0 ∧ 0 ≤ n ∧ n < xs.length ∧ oPut S draw d (.one (.eptr g t' xs n.toNat 0)) σ rest K | none => False) := by
  unfold oIdx wIndexAddr
  cases tElem S.C.P t <;> rfl
@[go_sem low] theorem oIdx_list {t e' : TypeId} {xs : List (List DV)} {kd : IntKind} {n : Int} : oIdx S draw t (.one (.d (.list e' xs))) (.one (.d (.int kd n))) d σ rest K = (match tElem S.C.P t with | some e => S.C.P.cellsOf e = e' ∧ e' ≠ 0 ∧ 0 ≤ n ∧ n < xs.length ∧ oPut S draw d (.one (.dptr (xs.getD n.toNat []) 0)) σ rest K | none => False) := by
  unfold oIdx wIndexAddr
  cases tElem S.C.P t <;> rfl
@[go_sem] theorem oInt_eq {p : BinOp} {kd : IntKind} {a b : Int} : oInt S draw p kd a b d σ rest K = (match p with
  | .add => oPut S draw d (.one (.d (.int kd (kd.wrap (a + b))))) σ rest K
  | .sub => oPut S draw d (.one (.d (.int kd (kd.wrap (a - b))))) σ rest K
  | .mul => oPut S draw d (.one (.d (.int kd (kd.wrap (a * b))))) σ rest K
  | .quo => b ≠ 0 ∧ oPut S draw d (.one (.d (.int kd (kd.wrap (a.tdiv b))))) σ rest K
  | .rem => b ≠ 0 ∧ oPut S draw d (.one (.d (.int kd (a.tmod b)))) σ rest K
  | .and => oPut S draw d (.one (.d (.int kd (kd.wrap ((BitVec.ofInt kd.bits a &&& BitVec.ofInt kd.bits b).toNat))))) σ rest K
  | .or => oPut S draw d (.one (.d (.int kd (kd.wrap ((BitVec.ofInt kd.bits a ||| BitVec.ofInt kd.bits b).toNat))))) σ rest K
  | .xor => oPut S draw d (.one (.d (.int kd (kd.wrap ((BitVec.ofInt kd.bits a ^^^ BitVec.ofInt kd.bits b).toNat))))) σ rest K
  | .andNot => oPut S draw d (.one (.d (.int kd (kd.wrap ((BitVec.ofInt kd.bits a &&& ~~~ BitVec.ofInt kd.bits b).toNat))))) σ rest K
  | .eql => oPut S draw d (.one (.d (.bool (a == b)))) σ rest K
  | .neq => oPut S draw d (.one (.d (.bool (a != b)))) σ rest K
  | .lss => oPut S draw d (.one (.d (.bool (decide (a < b))))) σ rest K
  | .leq => oPut S draw d (.one (.d (.bool (decide (a ≤ b))))) σ rest K
  | .gtr => oPut S draw d (.one (.d (.bool (decide (a > b))))) σ rest K
  | .geq => oPut S draw d (.one (.d (.bool (decide (a ≥ b))))) σ rest K
  | _ => False) := by
  unfold oInt wInt
  cases p <;> rfl
@[go_sem] theorem oNil_eq {p : BinOp} {t : TypeId} {y : Operand} {l : LV} : oNil S draw p t y l d σ rest K = (tSlice S.C.P t = true ∧ isConst y = true ∧ match l.isNil, p with
    | some z, .eql => oPut S draw d (.one (.d (.bool z))) σ rest K
    | some z, .neq => oPut S draw d (.one (.d (.bool (!z)))) σ rest K
    | _, _ => False) := rfl
@[go_sem] theorem oConvB_eq {src dst : TypeId} {l : LV} : oConvB S draw src dst l d σ rest K = (match l.rows? S.C.P with
  | some (_, xs, _) => match S.C.P.underlying src, S.C.P.underlying dst with
    | some (.slice e), some .string => S.C.P.underlying e = some (.int .u8) ∧ match rowsU8 xs with
      | some ns => oPut S draw d (.one (.d (.str ⟨(ns.map fun n => UInt8.ofNat n.toNat).toArray⟩))) σ rest K
      | none => False
    | _, _ => False
  | none => False) := rfl
@[go_sem] theorem oAppend_eq {t : Tmp} {e : TypeId} {a b : AV} : oAppend S draw t e a b σ rest K = (match b with
  | .one lb => match lb.rows? S.C.P with
    | none => False
    | some (e', ys, _) => (ys = [] ∨ e' = S.C.P.cellsOf e) ∧ S.C.P.cellsOf e ≠ 0 ∧ S.C.P.bytesOf e ≤ 65536 ∧
      match a with
      | .one (.own g u xs) => u = e ∧ xs.length + ys.length ≤ maxMade ∧
          match g.isVar, ys with
          | true, [] => oPut S draw (some t) (.one (.own (.var t) e [])) σ rest K
          | true, y :: ys => oPut S draw (some t) (.one (.own (.loc t .nil) e (y :: ys))) σ rest K
          | false, ys => oPut S draw (some t) (.one (.own (.loc t .nil) e (xs ++ ys))) (σ.up (ufun (single g .dead))) rest K
      | .one (.d .nil) => ys.length ≤ maxMade ∧ match ys with
          | [] => oPut S draw (some t) (.one (.own (.var t) e [])) σ rest K
          | y :: ys => oPut S draw (some t) (.one (.own (.loc t .nil) e (y :: ys))) σ rest K
      | _ => False
  | _ => False) := by
  cases b with
  | one lb =>
    simp only [oAppend, wAppend]
    rcases lb.rows? S.C.P with _ | ⟨e', ys, L⟩
    · rfl
    · dsimp only
      cases a with
      | one l => cases l with
        | d x => cases x <;> first | rfl | (cases ys <;> simp [oPut])
        | own g u xs => cases hg : g.isVar <;> cases ys <;> simp [oPut, hg]
        | _ => rfl
      | _ => rfl
  | _ => rfl
def oSlL (S : Sys) (draw : Bool) (t : TypeId) (l : LV) (lo hi : Option AV) (d : Option Tmp) (σ : Env) (rest : List SOp) (K : Env → Prop) : Prop := (match tElem S.C.P t, l.rows? S.C.P with
    | some e, some (e', xs, L) => (xs = [] ∨ e' = S.C.P.cellsOf e) ∧ S.C.P.cellsOf e ≠ 0 ∧
      match optInt 0 lo, optInt xs.length hi with
      | some l, some h => 0 ≤ l ∧ l ≤ h ∧ h ≤ xs.length ∧ if L = [] then oPut S draw d (.one (.d (.list (S.C.P.cellsOf e) ((xs.take h.toNat).drop l.toNat)))) σ rest K
          else draw = false ∧ oPut S draw d (.one (.d (.list (S.C.P.cellsOf e) ((xs.take h.toNat).drop l.toNat)))) (σ.up (frz S.C.P (among L))) rest K
      | _, _ => False
    | _, _ => False)
@[go_sem] theorem oSlL_eq {t : TypeId} {l : LV} {lo hi : Option AV} : oSlL S draw t l lo hi d σ rest K = (match tElem S.C.P t, l.rows? S.C.P with
    | some e, some (e', xs, L) => (xs = [] ∨ e' = S.C.P.cellsOf e) ∧ S.C.P.cellsOf e ≠ 0 ∧
      match optInt 0 lo, optInt xs.length hi with
      | some l, some h => 0 ≤ l ∧ l ≤ h ∧ h ≤ xs.length ∧ match L with
          | [] => oPut S draw d (.one (.d (.list (S.C.P.cellsOf e) ((xs.take h.toNat).drop l.toNat)))) σ rest K
          | g :: L => draw = false ∧ oPut S draw d (.one (.d (.list (S.C.P.cellsOf e) ((xs.take h.toNat).drop l.toNat)))) (σ.up (frz S.C.P (among (g :: L)))) rest K
      | _, _ => False
    | _, _ => False) := by
  unfold oSlL
  rcases tElem S.C.P t with _ | e
  · rfl
  · rcases l.rows? S.C.P with _ | ⟨e', xs, L⟩
    · rfl
    · dsimp only
      rcases optInt 0 lo with _ | l <;> rcases optInt (↑xs.length) hi with _ | h <;> first | rfl | (cases L <;> simp)
@[go_sem] theorem oSlice_eq {t : TypeId} {a : AV} {lo hi : Option AV} : oSlice S draw t a lo hi d σ rest K = (match a with
  | .one (.d (.str s)) =>
    tStr S.C.P t = true ∧
    match optInt 0 lo, optInt s.size hi with
    | some l, some h => 0 ≤ l ∧ l ≤ h ∧ h ≤ s.size ∧ oPut S draw d (.one (.d (.str (s.extract l.toNat h.toNat)))) σ rest K
    | _, _ => False
  | .one l => oSlL S draw t l lo hi d σ rest K
  | _ => False) := by
  cases a with
  | one l => cases l with
    | d x => cases x <;> rfl
    | _ => rfl
  | _ => rfl
@[go_sem] theorem oCall_eq {n : FuncId} {args : List AV} : oCall S draw d n args σ rest K = (match S.X n with
  | none => False
  | some F => match pass S.C.P 0 F.rw args with
    | none => False
    | some (as, T, L) => match F.post as with
      | none => False
      | some R => (T.Nodup ∧ ((nilAs as).map Prod.fst).Nodup ∧ (∀ g, g ∈ T → g ∉ L) ∧ (∃ r o, R r o)) ∧ oAll S draw d T L args σ rest K R) := rfl
@[go_sem] theorem oAll_one {T L : List Tag} {args : List AV} {X : AV} : oAll S draw d T L args σ rest K (fun r o => r = X) = ∀ o, oRet S draw d T L args σ rest K X o := propext all_one
@[go_sem] theorem oAll_two {T L : List Tag} {args : List AV} {X : AV} {Z : List AV} : oAll S draw d T L args σ rest K (fun r o => r = X ∧ o = Z) = oRet S draw d T L args σ rest K X Z := propext all_two
@[go_sem] theorem oRet_none {L : List Tag} {as : List AV} {r : AV} {o : List AV} : oRet S draw none [] L as σ rest K r o = (match r.scalar with | true => oPut S draw none r σ rest K | false => False) := by cases h : r.scalar <;> simp [oRet, h]
@[go_sem] theorem oRet_pure {t : Tmp} {as : List AV} {r : AV} {o : List AV} : oRet S draw (some t) [] [] as σ rest K r o = (match r.scalar with | true => oPut S draw (some t) r σ rest K | false => oPut S draw (some t) (r.up (retL t)) σ rest K) := by cases h : r.scalar <;> simp [oRet, h]
@[go_sem] theorem oRet_lend {t : Tmp} {g : Tag} {L : List Tag} {as : List AV} {r : AV} {o : List AV} : oRet S draw (some t) [] (g :: L) as σ rest K r o = (match r.scalar with | true => oPut S draw (some t) r σ rest K | false => (draw = false ∧ oPut S draw (some t) (r.up (retL t)) ((σ.up (frz S.C.P (among (g :: L)))).up (ufun (turn [] (outs as o)))) rest K)) := by cases h : r.scalar <;> simp [oRet, h]
@[go_sem] theorem oRet_write {t : Tmp} {g : Tag} {T L : List Tag} {as : List AV} {r : AV} {o : List AV} : oRet S draw (some t) (g :: T) L as σ rest K r o = (draw = false ∧ oPut S draw (some t) (r.up (retL t)) ((σ.up (frz S.C.P (among L))).up (ufun (turn (g :: T) (outs as o)))) rest K) := by simp [oRet]
end
@[go_sem] theorem drop_toNat0 {α : Type} {l : List α} : List.drop (Int.toNat 0) l = l := rfl
theorem wLoad_eq {S : Sys} (t : TypeId) (a : AV) (k : AV → Prop) : wLoad S t a k = (match a with
    | .one (.ptr g off c) => wPart S t c off k
    | .one (.dptr c off) => wPart S t (c.map .d) off k
    | .one (.eptr g t' xs i off) => wPart S t ((xs.getD i []).map .d) off k
    | _ => False) := rfl
attribute [go_sem] wLoad_eq wPart capsOf
attribute [go_sem] wEndC canR canA canLs canVs canL nilsA nilsLs nilsVs nilsL locsA locsLs locsVs locsL rho lookP far phi boxL boxC lookB List.tail_cons List.tail_nil List.drop_nil
attribute [go_sem] canE canOk canO canOOk frzE valsE valE locsE locE nilsE nilE boxesE boxE lookF
end Go.VS
namespace Go.VS
open Go Go.RowKit
set_option linter.unusedVariables false

def B (l : List UInt8) : ByteArray := ⟨l.toArray⟩
@[go_sem] theorem mk_B (l : List UInt8) : ByteArray.mk l.toArray = B l := rfl
@[go_sem] theorem B_size (l : List UInt8) : (B l).size = l.length := by simp [B, ByteArray.size]
@[go_sem] theorem B_append (l m : List UInt8) : B l ++ B m = B (l ++ m) := by
  apply ByteArray.ext
  simp [B]
@[go_sem] theorem B_data (l : List UInt8) : (B l).data.toList = l := by simp [B]
@[go_sem] theorem B_byteAt (l : List UInt8) (n : Int) : byteAt (B l) n = ((l.getD n.toNat 0).toNat : Int) := by simp [byteAt, B]
@[go_sem] theorem B_extract (l : List UInt8) (a b : Nat) : (B l).extract a b = B ((l.take b).drop a) := by
  apply ByteArray.ext
  apply Array.ext'
  simp only [B, ByteArray.data_extract, List.extract_toArray, List.extract_eq_take_drop]
  rw [List.drop_take]
@[go_sem] theorem B_inj {l m : List UInt8} : B l = B m ↔ l = m := by
  constructor
  · intro h
    have := congrArg (fun b => b.data.toList) h
    simpa [B] using this
  · exact fun h => by rw [h]
@[go_sem] theorem B_toList (l : List UInt8) : (B l).toList = l := by rw [ByteArray.toList_eq, B_data]
theorem B_eta (s : ByteArray) : B s.data.toList = s := by simp [B]

/-- A pointer that is only read, at a function's entry. -/
def AV.opn : AV → AV
  | .one (.d (.ptr c)) => .one (.dptr c 0)
  | a => a
theorem Okp.opn {C : Ctx} {n : FuncId} {args : List AV} {R : AV → List AV → Prop} (h : Okp C n (args.map AV.opn) R) : Okp C n args R := by
  intro w Φ H vs hG hi hs hargs
  refine h w Φ H vs hG hi (by simpa using hs) (fun i v a h1 h2 => ?_)
  rw [List.getElem?_map, Option.map_eq_some_iff] at h2
  obtain ⟨x, hx, rfl⟩ := h2
  have hr := hargs i v x h1 hx
  unfold AV.opn
  split
  · cases hr with
    | one _ _ hl =>
      cases hl with
      | d _ _ hc =>
        cases hc with
        | ptr _ b o cv hb hv hr =>
          have := RL.dptr (C := C) (H := H) _ 0 b o cv hb hv hr
          exact .one _ _ (by simpa using this)
  · exact hr

def bytesOf (l : List Int) : List UInt8 := l.map fun n => UInt8.ofNat n.toNat
/-! ### partial functions -/
def guardO {α : Type} (c : Prop) [Decidable c] (k : Option α) : Option α := if c then k else none
theorem guardO_some {α : Type} {c : Prop} [Decidable c] {k : Option α} {r : α} (h : guardO c k = some r) : c ∧ k = some r := by
  unfold guardO at h
  split at h
  · exact ⟨by assumption, h⟩
  · cases h
theorem guardO_true {α : Type} {c : Prop} [Decidable c] (h : c) (k : Option α) : guardO c k = k := if_pos h
def bindO {α β : Type} (x : Option α) (f : α → Option β) : Option β := match x with | some a => f a | none => none
theorem bindO_some {α β : Type} {x : Option α} {f : α → Option β} {r : β} (h : bindO x f = some r) : ∃ a, x = some a ∧ f a = some r := by
  cases x with
  | none => cases h
  | some a => exact ⟨a, rfl, h⟩
@[simp] theorem bindO_eq {α β : Type} (a : α) (f : α → Option β) : bindO (some a) f = f a := rfl
def iteO {α : Type} (c : Bool) (x y : Option α) : Option α := match c with | true => x | false => y
@[simp] theorem iteO_true {α : Type} (x y : Option α) : iteO true x y = x := rfl
@[simp] theorem iteO_false {α : Type} (x y : Option α) : iteO false x y = y := rfl
theorem iteO_t {α : Type} {c : Bool} {x y : Option α} {r : Option α} (hc : c = true) (h : iteO c x y = r) : x = r := by rw [hc] at h; exact h
theorem iteO_f {α : Type} {c : Bool} {x y : Option α} {r : Option α} (hc : c = false) (h : iteO c x y = r) : y = r := by rw [hc] at h; exact h

def letJ {α β : Type} (k : α) (f : α → β) : β := f k
theorem letJ_some {α β : Type} {k : α} {f : α → Option β} {r : β} (h : letJ k f = some r) : ∃ k', k' = k ∧ f k' = some r := ⟨k, rfl, h⟩
@[simp] theorem letJ_eq {α β : Type} (k : α) (f : α → β) : letJ k f = f k := rfl

/-! ### lists of rows -/
def rI (x : Int) : List DV := [.int .i64 x]
def ru8 (x : Int) : List DV := [.int .u8 x]
def rS (x : List UInt8) : List DV := [.str (B x)]
def rB (x : Bool) : List DV := [.bool x]
attribute [go_sem] rI ru8 rS rB
theorem map_inj' {T : Type} {f : T → List DV} (hf : ∀ x y, f x = f y → x = y) {l m : List T} : List.map f l = List.map f m ↔ l = m := by
  constructor
  · intro h
    induction l generalizing m with
    | nil => cases m with
      | nil => rfl
      | cons y m => simp at h
    | cons x l ih => cases m with
      | nil => simp at h
      | cons y m =>
        simp only [List.map_cons, List.cons.injEq] at h
        rw [hf _ _ h.1, ih h.2]
  · exact fun h => by rw [h]
theorem rI_inj {l m : List Int} : List.map rI l = List.map rI m ↔ l = m := map_inj' (fun x y h => by simpa [rI] using h)
theorem ru8_inj {l m : List Int} : List.map ru8 l = List.map ru8 m ↔ l = m := map_inj' (fun x y h => by simpa [ru8] using h)
theorem rS_inj {l m : List (List UInt8)} : List.map rS l = List.map rS m ↔ l = m := map_inj' (fun x y h => by simpa [rS, B_inj] using h)
theorem rB_inj {l m : List Bool} : List.map rB l = List.map rB m ↔ l = m := map_inj' (fun x y h => by simpa [rB] using h)
theorem map_set {T : Type} (f : T → List DV) (l : List T) (i : Nat) (v : T) (ds : List DV) (hd : f v = ds) (hl : ∀ x, (f x).length = ds.length) : (List.map f l).modify i (fun r => repl r 0 ds) = List.map f (l.set i v) := by
  have hr : ∀ x, repl (f x) 0 ds = f v := by
    intro x
    have := hl x
    simp only [repl, List.take_zero, List.nil_append, Nat.zero_add]
    rw [List.drop_of_length_le (by omega), List.append_nil, hd]
  induction l generalizing i with
  | nil => cases i <;> rfl
  | cons x l ih =>
    cases i with
    | zero => simp [hr]
    | succ i => simpa using ih i
theorem map_modify {T : Type} (f : T → List DV) (l : List T) (i o : Nat) (ds : List DV) (u : T → T) (hu : ∀ x, repl (f x) o ds = f (u x)) : (List.map f l).modify i (fun r => repl r o ds) = List.map f (l.modify i u) := by
  induction l generalizing i with
  | nil => cases i <;> rfl
  | cons x l ih =>
    cases i with
    | zero => simp [hu]
    | succ i => simpa using ih i
@[go_sem] theorem set_rI (l : List Int) (i : Nat) (v : Int) : (List.map rI l).modify i (fun r => repl r 0 [.int .i64 v]) = List.map rI (l.set i v) := map_set _ _ _ _ _ rfl (fun _ => rfl)
@[go_sem] theorem set_ru8 (l : List Int) (i : Nat) (v : Int) : (List.map ru8 l).modify i (fun r => repl r 0 [.int .u8 v]) = List.map ru8 (l.set i v) := map_set _ _ _ _ _ rfl (fun _ => rfl)
@[go_sem] theorem set_rS (l : List (List UInt8)) (i : Nat) (v : List UInt8) : (List.map rS l).modify i (fun r => repl r 0 [.str (B v)]) = List.map rS (l.set i v) := map_set _ _ _ _ _ rfl (fun _ => rfl)
@[go_sem] theorem set_rB (l : List Bool) (i : Nat) (v : Bool) : (List.map rB l).modify i (fun r => repl r 0 [.bool v]) = List.map rB (l.set i v) := map_set _ _ _ _ _ rfl (fun _ => rfl)
@[go_sem] theorem snoc_rI (l : List Int) (v : Int) : List.map rI l ++ [[.int .i64 v]] = List.map rI (l ++ [v]) := by simp [rI]
@[go_sem] theorem snoc_ru8 (l : List Int) (v : Int) : List.map ru8 l ++ [[.int .u8 v]] = List.map ru8 (l ++ [v]) := by simp [ru8]
@[go_sem] theorem snoc_rS (l : List (List UInt8)) (v : List UInt8) : List.map rS l ++ [[.str (B v)]] = List.map rS (l ++ [v]) := by simp [rS]
@[go_sem] theorem snoc_rB (l : List Bool) (v : Bool) : List.map rB l ++ [[.bool v]] = List.map rB (l ++ [v]) := by simp [rB]
@[go_sem] theorem take_map' {T : Type} (f : T → List DV) (l : List T) (n : Nat) : (List.map f l).take n = List.map f (l.take n) := (List.map_take).symm
@[go_sem] theorem drop_map' {T : Type} (f : T → List DV) (l : List T) (n : Nat) : (List.map f l).drop n = List.map f (l.drop n) := (List.map_drop).symm
@[go_sem] theorem map_append_map {T : Type} (f : T → List DV) (l m : List T) : List.map f l ++ List.map f m = List.map f (l ++ m) := List.map_append.symm
theorem replicate_map' {T : Type} (f : T → List DV) (n : Nat) (x : T) : List.map f (List.replicate n x) = List.replicate n (f x) := List.map_replicate

section
variable {T : Type} [Inhabited T] (f : T → List DV)
theorem map_getD {l : List T} {n : Nat} (h : n < l.length) : (l.map f).getD n [] = f (l.getD n default) := by simp [h]
theorem wIndexAddr_list {S : Sys} {t : TypeId} {e' : Nat} {l : List T} {kd : IntKind} {n : Int} {k : AV → Prop} : wIndexAddr S t (.one (.d (.list e' (l.map f)))) (.one (.d (.int kd n))) k ↔
    match tElem S.C.P t with | some e => S.C.P.cellsOf e = e' ∧ e' ≠ 0 ∧ 0 ≤ n ∧ n < l.length ∧ k (.one (.dptr (f (l.getD n.toNat default)) 0)) | none => False := by
  simp only [wIndexAddr]
  cases tElem S.C.P t with
  | none => exact Iff.rfl
  | some e =>
    simp only [List.length_map]
    constructor
    · rintro ⟨h1, h2, h3, h4, h5⟩
      refine ⟨h1, h2, h3, h4, ?_⟩
      rwa [map_getD f (by omega)] at h5
    · rintro ⟨h1, h2, h3, h4, h5⟩
      refine ⟨h1, h2, h3, h4, ?_⟩
      rwa [map_getD f (by omega)]
theorem wLoad_eptr {S : Sys} {t t' : TypeId} {g : Tag} {l : List T} {i off : Nat} {k : AV → Prop} : wLoad S t (.one (.eptr g t' (l.map f) i off)) k ↔ i < l.length ∧ wPart S t ((f (l.getD i default)).map .d) off k := by
  simp only [wLoad]
  by_cases h : i < l.length
  · rw [map_getD f h]; exact ⟨fun hh => ⟨h, hh⟩, fun hh => hh.2⟩
  · constructor
    · rintro ⟨h1, h2, _⟩
      have : (l.map f).getD i [] = [] := by simp [h]
      rw [this] at h2
      simp at h2
      omega
    · exact fun hh => absurd hh.1 h
end
@[go_sem high] theorem oIdx_map {T : Type} [Inhabited T] {f : T → List DV} {S : Sys} {draw : Bool} {d : Option Tmp} {σ : Env} {K : Env → Prop} {rest : List SOp} {t : TypeId} {e' : Nat} {l : List T} {kd : IntKind} {n : Int} : oIdx S draw t (.one (.d (.list e' (l.map f)))) (.one (.d (.int kd n))) d σ rest K ↔
    match tElem S.C.P t with | some e => S.C.P.cellsOf e = e' ∧ e' ≠ 0 ∧ 0 ≤ n ∧ n < l.length ∧ oPut S draw d (.one (.dptr (f (l.getD n.toNat default)) 0)) σ rest K | none => False := wIndexAddr_list f
@[go_sem high] theorem oLoad_map {T : Type} [Inhabited T] {f : T → List DV} {S : Sys} {draw : Bool} {d : Option Tmp} {σ : Env} {K : Env → Prop} {rest : List SOp} {t t' : TypeId} {g : Tag} {l : List T} {i off : Nat} : oLoad S draw t (.one (.eptr g t' (l.map f) i off)) d σ rest K ↔ i < l.length ∧ oPart S draw t ((f (l.getD i default)).map .d) off d σ rest K := wLoad_eptr f
attribute [go_sem] pruneO wParts wRows zeroL List.length_map List.length_replicate List.map_cons List.map_nil List.take_length decide_true decide_false

theorem rep1 {α : Type} (z : α) : List.replicate 1 z = [z] := rfl
theorem rep2 {α : Type} (z : α) : List.replicate 2 z = [z, z] := rfl
theorem rep3 {α : Type} (z : α) : List.replicate 3 z = [z, z, z] := rfl
theorem rep4 {α : Type} (z : α) : List.replicate 4 z = [z, z, z, z] := rfl
theorem rep5 {α : Type} (z : α) : List.replicate 5 z = [z, z, z, z, z] := rfl
theorem rep6 {α : Type} (z : α) : List.replicate 6 z = [z, z, z, z, z, z] := rfl
theorem rep7 {α : Type} (z : α) : List.replicate 7 z = [z, z, z, z, z, z, z] := rfl
theorem rep8 {α : Type} (z : α) : List.replicate 8 z = [z, z, z, z, z, z, z, z] := rfl
attribute [go_sem] rep1 rep2 rep3 rep4 rep5 rep6 rep7 rep8 List.replicate_zero List.set_cons_zero List.set_cons_succ Option.bind_some Option.bind_none false_implies or_true true_or or_false false_or Nat.le_refl Int.le_refl reduceCtorEq List.nil_append Option.some.injEq
@[go_sem] theorem rowsU8_map (l : List Int) : rowsU8 (List.map ru8 l) = some l := by
  induction l with
  | nil => rfl
  | cons x l ih => simp [ru8, rowsU8] at ih ⊢; rw [ih]
@[go_sem] theorem repl_succ {α : Type} (x : α) (r : List α) (n : Nat) (ds : List α) : repl (x :: r) (n + 1) ds = x :: repl r n ds := by
  simp only [repl, List.take_succ_cons, List.cons_append, show n + 1 + ds.length = (n + ds.length) + 1 by omega, List.drop_succ_cons]
@[go_sem] theorem repl_zero {α : Type} (x : α) (r : List α) (d : α) (ds : List α) : repl (x :: r) 0 (d :: ds) = d :: repl r 0 ds := by
  simp only [repl, List.take_zero, List.nil_append, List.length_cons, Nat.zero_add, List.cons_append, List.drop_succ_cons]
@[go_sem] theorem repl_nil {α : Type} (r : List α) : repl r 0 [] = r := by simp [repl]
attribute [go_sem] rowsU8 bytesOf
section
variable {S : Sys}
theorem vSC_condB {c : Nat} {x : Operand} {a b rest : SC} {Q : Ex → Env → Prop} {σ : Env} (t : Bool) (hx : σ.eval S.n x = .one (.d (.bool t)))
    (h : ∀ K : Ex → Env → Prop, (∀ σ', vSC S c rest Q σ' → K .normal σ') → (∀ i σ', Q (.exit i) σ' → K (.exit i) σ') → (∀ σ', Q .ret σ' → K .ret σ') → (t = true → vSC S c a K σ) ∧ (t = false → vSC S c b K σ)) : vSC S c (.cond x a b rest) Q σ :=
  vSC_cond fun K h1 h2 h3 => by rw [hx]; exact h K h1 h2 h3
theorem vSC_condJ {c : Nat} {x : Operand} {a b rest : SC} {Q : Ex → Env → Prop} {σ : Env} (t : Bool) (hx : σ.eval S.n x = .one (.d (.bool t))) (l : List Nat) (J : Env → Prop) (hrest : ∀ σ', J σ' → vSC S c rest Q σ')
    (h : ∀ K : Ex → Env → Prop, (∀ σ', J (σ'.prune l) → K .normal σ') → (∀ i σ', Q (.exit i) σ' → K (.exit i) σ') → (∀ σ', Q .ret σ' → K .ret σ') → (t = true → vSC S c a K σ) ∧ (t = false → vSC S c b K σ)) : vSC S c (.cond x a b rest) Q σ :=
  vSC_cond_join (some l) J hrest fun K h1 h2 h3 => by rw [hx]; exact h K h1 h2 h3
theorem vSC_blockJ {c id : Nat} {b rest : SC} {Q : Ex → Env → Prop} {σ : Env} (l : List Nat) (J : Env → Prop) (hrest : ∀ σ', J σ' → vSC S c rest Q σ') (h : ∀ K : Ex → Env → Prop, (∀ σ', J (σ'.prune l) → K .normal σ') → (∀ σ', J (σ'.prune l) → K (.exit id) σ') → (∀ i σ', i ≠ id → Q (.exit i) σ' → K (.exit i) σ') → (∀ σ', Q .ret σ' → K .ret σ') →
    vSC S id b K σ) : vSC S c (.block id b rest) Q σ :=
  vSC_block_join (some l) J hrest h
end
end Go.VS
