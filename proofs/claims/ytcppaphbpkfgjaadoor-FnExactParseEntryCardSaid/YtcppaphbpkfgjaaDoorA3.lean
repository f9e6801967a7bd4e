/- The types of the program as Lean types; library functions. -/
import Derived.Test.YtcppaphbpkfgjaaDoorA2
import Derived.Shelf.Strconv.Itoa3
import Derived.Lib.AtoiAll
import Derived.Lib.Bytealg
import Derived.Lib.CutLaws
import Derived.Shelf.Strings.OnBuilder
import Derived.Shelf.Strings.Cut
namespace Go.VS
open Go
set_option linter.unusedVariables false
set_option linter.unusedSimpArgs false

structure GEntry where
  fNow : Int
  fTies : List Int
  fNodes : List Int
  fValues : List Int
  deriving DecidableEq, Inhabited
def rGEntry (x : GEntry) : List DV := [.int .i64 x.fNow, .list 1 (List.map rI x.fTies), .list 1 (List.map rI x.fNodes), .list 1 (List.map rI x.fValues)]
attribute [go_sem] rGEntry
theorem rGEntry_inj {l m : List GEntry} : List.map rGEntry l = List.map rGEntry m ↔ l = m := map_inj' (by rintro ⟨a0, a1, a2, a3⟩ ⟨b0, b1, b2, b3⟩ h; simpa [rGEntry, rI_inj, ru8_inj, rS_inj, rB_inj, B_inj] using h)
@[go_sem] theorem snoc_rGEntry (l : List GEntry) (c_0 : Int) (c_1 : List Int) (c_2 : List Int) (c_3 : List Int) : List.map rGEntry l ++ [[.int .i64 c_0, .list 1 (List.map rI c_1), .list 1 (List.map rI c_2), .list 1 (List.map rI c_3)]] = List.map rGEntry (l ++ [(⟨c_0, c_1, c_2, c_3⟩ : GEntry)]) := by simp [rGEntry]
@[go_sem] theorem set_rGEntry (l : List GEntry) (i : Nat) (c_0 : Int) (c_1 : List Int) (c_2 : List Int) (c_3 : List Int) : (List.map rGEntry l).modify i (fun r => repl r 0 [.int .i64 c_0, .list 1 (List.map rI c_1), .list 1 (List.map rI c_2), .list 1 (List.map rI c_3)]) = List.map rGEntry (l.set i (⟨c_0, c_1, c_2, c_3⟩ : GEntry)) := map_set _ _ _ _ _ rfl (fun _ => rfl)
@[go_sem] theorem mod_rGEntry_0 (l : List GEntry) (i : Nat) (c_0 : Int) : (List.map rGEntry l).modify i (fun r => repl r 0 [.int .i64 c_0]) = List.map rGEntry (l.modify i (fun x_ => (⟨c_0, x_.fTies, x_.fNodes, x_.fValues⟩ : GEntry))) := map_modify _ _ _ _ _ _ (fun _ => rfl)
@[go_sem] theorem mod_rGEntry_1 (l : List GEntry) (i : Nat) (c_1 : List Int) : (List.map rGEntry l).modify i (fun r => repl r 1 [.list 1 (List.map rI c_1)]) = List.map rGEntry (l.modify i (fun x_ => (⟨x_.fNow, c_1, x_.fNodes, x_.fValues⟩ : GEntry))) := map_modify _ _ _ _ _ _ (fun _ => rfl)
@[go_sem] theorem mod_rGEntry_2 (l : List GEntry) (i : Nat) (c_2 : List Int) : (List.map rGEntry l).modify i (fun r => repl r 2 [.list 1 (List.map rI c_2)]) = List.map rGEntry (l.modify i (fun x_ => (⟨x_.fNow, x_.fTies, c_2, x_.fValues⟩ : GEntry))) := map_modify _ _ _ _ _ _ (fun _ => rfl)
@[go_sem] theorem mod_rGEntry_3 (l : List GEntry) (i : Nat) (c_3 : List Int) : (List.map rGEntry l).modify i (fun r => repl r 3 [.list 1 (List.map rI c_3)]) = List.map rGEntry (l.modify i (fun x_ => (⟨x_.fNow, x_.fTies, x_.fNodes, c_3⟩ : GEntry))) := map_modify _ _ _ _ _ _ (fun _ => rfl)
end Go.VS
namespace Go.VS
open Go
set_option linter.unusedVariables false
def lib_Itoa (F : Nat) (a0 : Int) : Option (List UInt8) := guardO (-9223372036854775808 ≤ a0 ∧ a0 ≤ 9223372036854775807) (some (Lib.itoa a0))
def atoiRes (s : List UInt8) : Int × Bool := match Lib.atoiAll s with
  | .ok v => (v, false)
  | .range => (Lib.atoiSat s, true)
  | _ => (0, true)
def lib_Atoi (F : Nat) (a0 : List UInt8) : Option (Int × Bool) := guardO (a0.length ≤ 281474976710656) (some (atoiRes a0))
def lib_IndexByte (F : Nat) (a0 : List UInt8) (a1 : Int) : Option Int := some (Lib.indexByte a0 a1.toNat.toUInt8)
def lib_Cut (F : Nat) (a0 a1 : List UInt8) : Option (List UInt8 × List UInt8 × Bool) := guardO (a0.length < 4294967281) (some (Lib.cut a0 a1))
def lib_Join (F : Nat) (a0 : List (List UInt8)) (a1 : List UInt8) : Option (List UInt8) := guardO (a0.length ≤ 140737488355328 ∧ (Lib.join a0 a1).length ≤ 140737488355328) (some (Lib.join a0 a1))
end Go.VS
