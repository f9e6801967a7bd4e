/- The types of the program as Lean types; library functions. -/
import Derived.Test.YtcppaphbpkfgjaaDoorA3
import Derived.Shelf.Strconv.Itoa3
import Derived.Lib.AtoiAll
import Derived.Lib.Bytealg
import Derived.Lib.CutLaws
import Derived.Shelf.Strings.OnBuilder
import Derived.Shelf.Strings.Cut
namespace Go.VS
open Go
set_option linter.unusedVariables false
set_option linter.unusedSimpArgs false

structure GEntry where
  fNow : Int
  fTies : List Int
  fNodes : List Int
  fValues : List Int
  deriving DecidableEq, Inhabited
def rGEntry (x : GEntry) : List DV := [.int .i64 x.fNow, .list 1 (List.map rI x.fTies), .list 1 (List.map rI x.fNodes), .list 1 (List.map rI x.fValues)]
attribute [go_sem] rGEntry
theorem rGEntry_inj {l m : List GEntry} : List.map rGEntry l = List.map rGEntry m ↔ l = m := map_inj' (by rintro ⟨a0, a1, a2, a3⟩ ⟨b0, b1, b2, b3⟩ h; simpa [rGEntry, rI_inj, ru8_inj, rS_inj, rB_inj, B_inj] using h)
@[go_sem] theorem snoc_rGEntry (l : List GEntry) (c_0 : Int) (c_1 : List Int) (c_2 : List Int) (c_3 : List Int) : List.map rGEntry l ++ [[.int .i64 c_0, .list 1 (List.map rI c_1), .list 1 (List.map rI c_2), .list 1 (List.map rI c_3)]] = List.map rGEntry (l ++ [(⟨c_0, c_1, c_2, c_3⟩ : GEntry)]) := by simp [rGEntry]
@[go_sem] theorem set_rGEntry (l : List GEntry) (i : Nat) (c_0 : Int) (c_1 : List Int) (c_2 : List Int) (c_3 : List Int) : (List.map rGEntry l).modify i (fun r => repl r 0 [.int .i64 c_0, .list 1 (List.map rI c_1), .list 1 (List.map rI c_2), .list 1 (List.map rI c_3)]) = List.map rGEntry (l.set i (⟨c_0, c_1, c_2, c_3⟩ : GEntry)) := map_set _ _ _ _ _ rfl (fun _ => rfl)
@[go_sem] theorem mod_rGEntry_0 (l : List GEntry) (i : Nat) (c_0 : Int) : (List.map rGEntry l).modify i (fun r => repl r 0 [.int .i64 c_0]) = List.map rGEntry (l.modify i (fun x_ => (⟨c_0, x_.fTies, x_.fNodes, x_.fValues⟩ : GEntry))) := map_modify _ _ _ _ _ _ (fun _ => rfl)
@[go_sem] theorem mod_rGEntry_1 (l : List GEntry) (i : Nat) (c_1 : List Int) : (List.map rGEntry l).modify i (fun r => repl r 1 [.list 1 (List.map rI c_1)]) = List.map rGEntry (l.modify i (fun x_ => (⟨x_.fNow, c_1, x_.fNodes, x_.fValues⟩ : GEntry))) := map_modify _ _ _ _ _ _ (fun _ => rfl)
@[go_sem] theorem mod_rGEntry_2 (l : List GEntry) (i : Nat) (c_2 : List Int) : (List.map rGEntry l).modify i (fun r => repl r 2 [.list 1 (List.map rI c_2)]) = List.map rGEntry (l.modify i (fun x_ => (⟨x_.fNow, x_.fTies, c_2, x_.fValues⟩ : GEntry))) := map_modify _ _ _ _ _ _ (fun _ => rfl)
@[go_sem] theorem mod_rGEntry_3 (l : List GEntry) (i : Nat) (c_3 : List Int) : (List.map rGEntry l).modify i (fun r => repl r 3 [.list 1 (List.map rI c_3)]) = List.map rGEntry (l.modify i (fun x_ => (⟨x_.fNow, x_.fTies, x_.fNodes, c_3⟩ : GEntry))) := map_modify _ _ _ _ _ _ (fun _ => rfl)
structure GNode where
  fName : List UInt8
  fLabel : List Int
  fWatch : Int
  deriving DecidableEq, Inhabited
def rGNode (x : GNode) : List DV := [.str (B x.fName), .list 1 (List.map rI x.fLabel), .int .i64 x.fWatch]
attribute [go_sem] rGNode
theorem rGNode_inj {l m : List GNode} : List.map rGNode l = List.map rGNode m ↔ l = m := map_inj' (by rintro ⟨a0, a1, a2⟩ ⟨b0, b1, b2⟩ h; simpa [rGNode, rI_inj, ru8_inj, rS_inj, rB_inj, B_inj, rGEntry_inj] using h)
@[go_sem] theorem snoc_rGNode (l : List GNode) (c_0 : List UInt8) (c_1 : List Int) (c_2 : Int) : List.map rGNode l ++ [[.str (B c_0), .list 1 (List.map rI c_1), .int .i64 c_2]] = List.map rGNode (l ++ [(⟨c_0, c_1, c_2⟩ : GNode)]) := by simp [rGNode]
@[go_sem] theorem set_rGNode (l : List GNode) (i : Nat) (c_0 : List UInt8) (c_1 : List Int) (c_2 : Int) : (List.map rGNode l).modify i (fun r => repl r 0 [.str (B c_0), .list 1 (List.map rI c_1), .int .i64 c_2]) = List.map rGNode (l.set i (⟨c_0, c_1, c_2⟩ : GNode)) := map_set _ _ _ _ _ rfl (fun _ => rfl)
@[go_sem] theorem mod_rGNode_0 (l : List GNode) (i : Nat) (c_0 : List UInt8) : (List.map rGNode l).modify i (fun r => repl r 0 [.str (B c_0)]) = List.map rGNode (l.modify i (fun x_ => (⟨c_0, x_.fLabel, x_.fWatch⟩ : GNode))) := map_modify _ _ _ _ _ _ (fun _ => rfl)
@[go_sem] theorem mod_rGNode_1 (l : List GNode) (i : Nat) (c_1 : List Int) : (List.map rGNode l).modify i (fun r => repl r 1 [.list 1 (List.map rI c_1)]) = List.map rGNode (l.modify i (fun x_ => (⟨x_.fName, c_1, x_.fWatch⟩ : GNode))) := map_modify _ _ _ _ _ _ (fun _ => rfl)
@[go_sem] theorem mod_rGNode_2 (l : List GNode) (i : Nat) (c_2 : Int) : (List.map rGNode l).modify i (fun r => repl r 2 [.int .i64 c_2]) = List.map rGNode (l.modify i (fun x_ => (⟨x_.fName, x_.fLabel, c_2⟩ : GNode))) := map_modify _ _ _ _ _ _ (fun _ => rfl)
structure GTie where
  fFrom : Int
  fTo : Int
  fLow : Int
  fHigh : Int
  fFree : Bool
  deriving DecidableEq, Inhabited
def rGTie (x : GTie) : List DV := [.int .i64 x.fFrom, .int .i64 x.fTo, .int .i64 x.fLow, .int .i64 x.fHigh, .bool x.fFree]
attribute [go_sem] rGTie
theorem rGTie_inj {l m : List GTie} : List.map rGTie l = List.map rGTie m ↔ l = m := map_inj' (by rintro ⟨a0, a1, a2, a3, a4⟩ ⟨b0, b1, b2, b3, b4⟩ h; simpa [rGTie, rI_inj, ru8_inj, rS_inj, rB_inj, B_inj, rGEntry_inj, rGNode_inj] using h)
@[go_sem] theorem snoc_rGTie (l : List GTie) (c_0 : Int) (c_1 : Int) (c_2 : Int) (c_3 : Int) (c_4 : Bool) : List.map rGTie l ++ [[.int .i64 c_0, .int .i64 c_1, .int .i64 c_2, .int .i64 c_3, .bool c_4]] = List.map rGTie (l ++ [(⟨c_0, c_1, c_2, c_3, c_4⟩ : GTie)]) := by simp [rGTie]
@[go_sem] theorem set_rGTie (l : List GTie) (i : Nat) (c_0 : Int) (c_1 : Int) (c_2 : Int) (c_3 : Int) (c_4 : Bool) : (List.map rGTie l).modify i (fun r => repl r 0 [.int .i64 c_0, .int .i64 c_1, .int .i64 c_2, .int .i64 c_3, .bool c_4]) = List.map rGTie (l.set i (⟨c_0, c_1, c_2, c_3, c_4⟩ : GTie)) := map_set _ _ _ _ _ rfl (fun _ => rfl)
@[go_sem] theorem mod_rGTie_0 (l : List GTie) (i : Nat) (c_0 : Int) : (List.map rGTie l).modify i (fun r => repl r 0 [.int .i64 c_0]) = List.map rGTie (l.modify i (fun x_ => (⟨c_0, x_.fTo, x_.fLow, x_.fHigh, x_.fFree⟩ : GTie))) := map_modify _ _ _ _ _ _ (fun _ => rfl)
@[go_sem] theorem mod_rGTie_1 (l : List GTie) (i : Nat) (c_1 : Int) : (List.map rGTie l).modify i (fun r => repl r 1 [.int .i64 c_1]) = List.map rGTie (l.modify i (fun x_ => (⟨x_.fFrom, c_1, x_.fLow, x_.fHigh, x_.fFree⟩ : GTie))) := map_modify _ _ _ _ _ _ (fun _ => rfl)
@[go_sem] theorem mod_rGTie_2 (l : List GTie) (i : Nat) (c_2 : Int) : (List.map rGTie l).modify i (fun r => repl r 2 [.int .i64 c_2]) = List.map rGTie (l.modify i (fun x_ => (⟨x_.fFrom, x_.fTo, c_2, x_.fHigh, x_.fFree⟩ : GTie))) := map_modify _ _ _ _ _ _ (fun _ => rfl)
@[go_sem] theorem mod_rGTie_3 (l : List GTie) (i : Nat) (c_3 : Int) : (List.map rGTie l).modify i (fun r => repl r 3 [.int .i64 c_3]) = List.map rGTie (l.modify i (fun x_ => (⟨x_.fFrom, x_.fTo, x_.fLow, c_3, x_.fFree⟩ : GTie))) := map_modify _ _ _ _ _ _ (fun _ => rfl)
@[go_sem] theorem mod_rGTie_4 (l : List GTie) (i : Nat) (c_4 : Bool) : (List.map rGTie l).modify i (fun r => repl r 4 [.bool c_4]) = List.map rGTie (l.modify i (fun x_ => (⟨x_.fFrom, x_.fTo, x_.fLow, x_.fHigh, c_4⟩ : GTie))) := map_modify _ _ _ _ _ _ (fun _ => rfl)
structure GShow where
  fNodes : List GNode
  fTies : List GTie
  fHorizon : Int
  deriving DecidableEq, Inhabited
def rGShow (x : GShow) : List DV := [.list 3 (List.map rGNode x.fNodes), .list 5 (List.map rGTie x.fTies), .int .i64 x.fHorizon]
attribute [go_sem] rGShow
theorem rGShow_inj {l m : List GShow} : List.map rGShow l = List.map rGShow m ↔ l = m := map_inj' (by rintro ⟨a0, a1, a2⟩ ⟨b0, b1, b2⟩ h; simpa [rGShow, rI_inj, ru8_inj, rS_inj, rB_inj, B_inj, rGEntry_inj, rGNode_inj, rGTie_inj] using h)
@[go_sem] theorem snoc_rGShow (l : List GShow) (c_0 : List GNode) (c_1 : List GTie) (c_2 : Int) : List.map rGShow l ++ [[.list 3 (List.map rGNode c_0), .list 5 (List.map rGTie c_1), .int .i64 c_2]] = List.map rGShow (l ++ [(⟨c_0, c_1, c_2⟩ : GShow)]) := by simp [rGShow]
@[go_sem] theorem set_rGShow (l : List GShow) (i : Nat) (c_0 : List GNode) (c_1 : List GTie) (c_2 : Int) : (List.map rGShow l).modify i (fun r => repl r 0 [.list 3 (List.map rGNode c_0), .list 5 (List.map rGTie c_1), .int .i64 c_2]) = List.map rGShow (l.set i (⟨c_0, c_1, c_2⟩ : GShow)) := map_set _ _ _ _ _ rfl (fun _ => rfl)
@[go_sem] theorem mod_rGShow_0 (l : List GShow) (i : Nat) (c_0 : List GNode) : (List.map rGShow l).modify i (fun r => repl r 0 [.list 3 (List.map rGNode c_0)]) = List.map rGShow (l.modify i (fun x_ => (⟨c_0, x_.fTies, x_.fHorizon⟩ : GShow))) := map_modify _ _ _ _ _ _ (fun _ => rfl)
@[go_sem] theorem mod_rGShow_1 (l : List GShow) (i : Nat) (c_1 : List GTie) : (List.map rGShow l).modify i (fun r => repl r 1 [.list 5 (List.map rGTie c_1)]) = List.map rGShow (l.modify i (fun x_ => (⟨x_.fNodes, c_1, x_.fHorizon⟩ : GShow))) := map_modify _ _ _ _ _ _ (fun _ => rfl)
@[go_sem] theorem mod_rGShow_2 (l : List GShow) (i : Nat) (c_2 : Int) : (List.map rGShow l).modify i (fun r => repl r 2 [.int .i64 c_2]) = List.map rGShow (l.modify i (fun x_ => (⟨x_.fNodes, x_.fTies, c_2⟩ : GShow))) := map_modify _ _ _ _ _ _ (fun _ => rfl)
structure GState where
  fNow : Int
  fTimes : List Int
  fValues : List Int
  deriving DecidableEq, Inhabited
def rGState (x : GState) : List DV := [.int .i64 x.fNow, .list 1 (List.map rI x.fTimes), .list 1 (List.map rI x.fValues)]
attribute [go_sem] rGState
theorem rGState_inj {l m : List GState} : List.map rGState l = List.map rGState m ↔ l = m := map_inj' (by rintro ⟨a0, a1, a2⟩ ⟨b0, b1, b2⟩ h; simpa [rGState, rI_inj, ru8_inj, rS_inj, rB_inj, B_inj, rGEntry_inj, rGNode_inj, rGTie_inj, rGShow_inj] using h)
@[go_sem] theorem snoc_rGState (l : List GState) (c_0 : Int) (c_1 : List Int) (c_2 : List Int) : List.map rGState l ++ [[.int .i64 c_0, .list 1 (List.map rI c_1), .list 1 (List.map rI c_2)]] = List.map rGState (l ++ [(⟨c_0, c_1, c_2⟩ : GState)]) := by simp [rGState]
@[go_sem] theorem set_rGState (l : List GState) (i : Nat) (c_0 : Int) (c_1 : List Int) (c_2 : List Int) : (List.map rGState l).modify i (fun r => repl r 0 [.int .i64 c_0, .list 1 (List.map rI c_1), .list 1 (List.map rI c_2)]) = List.map rGState (l.set i (⟨c_0, c_1, c_2⟩ : GState)) := map_set _ _ _ _ _ rfl (fun _ => rfl)
@[go_sem] theorem mod_rGState_0 (l : List GState) (i : Nat) (c_0 : Int) : (List.map rGState l).modify i (fun r => repl r 0 [.int .i64 c_0]) = List.map rGState (l.modify i (fun x_ => (⟨c_0, x_.fTimes, x_.fValues⟩ : GState))) := map_modify _ _ _ _ _ _ (fun _ => rfl)
@[go_sem] theorem mod_rGState_1 (l : List GState) (i : Nat) (c_1 : List Int) : (List.map rGState l).modify i (fun r => repl r 1 [.list 1 (List.map rI c_1)]) = List.map rGState (l.modify i (fun x_ => (⟨x_.fNow, c_1, x_.fValues⟩ : GState))) := map_modify _ _ _ _ _ _ (fun _ => rfl)
@[go_sem] theorem mod_rGState_2 (l : List GState) (i : Nat) (c_2 : List Int) : (List.map rGState l).modify i (fun r => repl r 2 [.list 1 (List.map rI c_2)]) = List.map rGState (l.modify i (fun x_ => (⟨x_.fNow, x_.fTimes, c_2⟩ : GState))) := map_modify _ _ _ _ _ _ (fun _ => rfl)
end Go.VS
namespace Go.VS
open Go
set_option linter.unusedVariables false
def lib_Itoa (F : Nat) (a0 : Int) : Option (List UInt8) := guardO (-9223372036854775808 ≤ a0 ∧ a0 ≤ 9223372036854775807) (some (Lib.itoa a0))
def atoiRes (s : List UInt8) : Int × Bool := match Lib.atoiAll s with
  | .ok v => (v, false)
  | .range => (Lib.atoiSat s, true)
  | _ => (0, true)
def lib_Atoi (F : Nat) (a0 : List UInt8) : Option (Int × Bool) := guardO (a0.length ≤ 281474976710656) (some (atoiRes a0))
def lib_IndexByte (F : Nat) (a0 : List UInt8) (a1 : Int) : Option Int := some (Lib.indexByte a0 a1.toNat.toUInt8)
def lib_Cut (F : Nat) (a0 a1 : List UInt8) : Option (List UInt8 × List UInt8 × Bool) := guardO (a0.length < 4294967281) (some (Lib.cut a0 a1))
def lib_Join (F : Nat) (a0 : List (List UInt8)) (a1 : List UInt8) : Option (List UInt8) := guardO (a0.length ≤ 140737488355328 ∧ (Lib.join a0 a1).length ≤ 140737488355328) (some (Lib.join a0 a1))
end Go.VS
