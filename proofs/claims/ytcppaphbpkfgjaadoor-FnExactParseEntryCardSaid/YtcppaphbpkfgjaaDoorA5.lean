/- Lean functions that mirror Go functions of the program. -/
import Derived.Test.YtcppaphbpkfgjaaDoorA4
namespace Go.VS
open Go
set_option linter.unusedVariables false

def spec_SplitAny_L2 (F : Nat) (a0 : List UInt8) (a1 : List UInt8) (u5 : Int) (u6 : Int) (u7 : List (List UInt8)) (k5 : Int → List (List UInt8) → Option (List (List UInt8))) : Nat → Int → Option (List (List UInt8))
  | 0, _ => none
  | n_ + 1, u12 =>
    iteO (decide (u12 < (a1.length : Int))) (
    guardO (0 ≤ u5 ∧ u5 < (a0.length : Int)) <|
    guardO (0 ≤ u12 ∧ u12 < (a1.length : Int)) <|
    iteO (((a0.getD u5.toNat 0).toNat : Int) == ((a1.getD u12.toNat 0).toNat : Int)) (
    guardO (0 ≤ u6 ∧ u6 ≤ u5 ∧ u5 ≤ (a0.length : Int)) <|
    guardO (u7.length + 1 ≤ maxMade) <|
    k5 (IntKind.i64.wrap (u5 + 1)) (u7 ++ [((a0.take u5.toNat).drop u6.toNat)])
    ) (
    spec_SplitAny_L2 F a0 a1 u5 u6 u7 k5 n_ (IntKind.i64.wrap (u12 + 1))
    )) (
    k5 u6 u7
    )

def spec_SplitAny_L1 (F : Nat) (a0 : List UInt8) (a1 : List UInt8) (k1 : Int → List (List UInt8) → Option (List (List UInt8))) : Nat → Int → Int → List (List UInt8) → Option (List (List UInt8))
  | 0, _, _, _ => none
  | n_ + 1, u5, u6, u7 =>
    iteO (decide (u5 < (a0.length : Int))) (
    letJ (fun (v8 : Int) => fun (v9 : List (List UInt8)) => (
    spec_SplitAny_L1 F a0 a1 k1 n_ (IntKind.i64.wrap (u5 + 1)) v8 v9
     : Option (List (List UInt8)))) fun k4 =>
    letJ (fun (v10 : Int) => fun (v11 : List (List UInt8)) => (
    k4 v10 v11
     : Option (List (List UInt8)))) fun k5 =>
    spec_SplitAny_L2 F a0 a1 u5 u6 u7 k5 F 0
    ) (
    k1 u6 u7
    )

def spec_SplitAny (F : Nat) (a0 : List UInt8) (a1 : List UInt8) : Option (List (List UInt8)) :=
  letJ (fun (v1 : Int) => fun (v2 : List (List UInt8)) => (
  guardO (0 ≤ v1 ∧ v1 ≤ (a0.length : Int)) <|
  guardO (v2.length + 1 ≤ maxMade) <|
  some (v2 ++ [(a0.drop v1.toNat)])
 : Option (List (List UInt8)))) fun k1 =>
  spec_SplitAny_L1 F a0 a1 k1 F 0 0 ([] : List (List UInt8))

end Go.VS
namespace Go.VS
open Go
set_option linter.unusedVariables false

def spec_IsDigits_L1 (F : Nat) (a0 : List UInt8) (k1 : Option Bool) : Nat → Int → Option Bool
  | 0, _ => none
  | n_ + 1, u1 =>
    iteO (decide (u1 < (a0.length : Int))) (
    guardO (0 ≤ u1 ∧ u1 < (a0.length : Int)) <|
    bindO (iteO (decide (((a0.getD u1.toNat 0).toNat : Int) < 48)) (some true) ( guardO (0 ≤ u1 ∧ u1 < (a0.length : Int)) <| some (decide (((a0.getD u1.toNat 0).toNat : Int) > 57)))) fun b4 =>
    iteO b4 (
    some false
    ) (
    spec_IsDigits_L1 F a0 k1 n_ (IntKind.i64.wrap (u1 + 1))
    )) (
    k1
    )

def spec_IsDigits (F : Nat) (a0 : List UInt8) : Option Bool :=
  letJ ((
  some (decide ((a0.length : Int) > 0))
 : Option Bool)) fun k1 =>
  spec_IsDigits_L1 F a0 k1 F 0

end Go.VS
namespace Go.VS
open Go
set_option linter.unusedVariables false

def spec_FormatInt_L1 (F : Nat) (k3 : List UInt8 → Int → Option (List UInt8)) : Nat → List UInt8 → Int → Option (List UInt8)
  | 0, _, _ => none
  | n_ + 1, u11, u12 =>
    iteO (decide (u12 > 9)) (
    guardO ((10 : Int) ≠ 0) <|
    guardO (1 + u11.length ≤ 9223372036854775807) <|
    guardO ((10 : Int) ≠ 0) <|
    spec_FormatInt_L1 F k3 n_ ((bytesOf ([(IntKind.u8.wrap ((IntKind.i64.wrap ((48 : Int) + (Int.tmod u12 10)))))] : List Int)) ++ u11) (IntKind.i64.wrap (Int.tdiv u12 10))
    ) (
    k3 u11 u12
    )

def spec_FormatInt (F : Nat) : Nat → Int → Option (List UInt8)
  | 0, _ => none
  | D_ + 1, a0 =>
    iteO (decide (a0 < 0)) (
    guardO ((10 : Int) ≠ 0) <|
    iteO ((IntKind.i64.wrap (Int.tdiv a0 10)) == 0) (
    guardO (1 + 1 ≤ 9223372036854775807) <|
    some (([45] : List UInt8) ++ (bytesOf ([(IntKind.u8.wrap ((IntKind.i64.wrap ((48 : Int) - a0))))] : List Int)))
    ) (
    guardO ((10 : Int) ≠ 0) <|
    bindO ((spec_FormatInt F D_) (IntKind.i64.wrap (Int.tdiv a0 10))) fun x4 =>
    guardO ((10 : Int) ≠ 0) <|
    guardO (x4.length + 1 ≤ 9223372036854775807) <|
    some (x4 ++ (bytesOf ([(IntKind.u8.wrap ((IntKind.i64.wrap ((48 : Int) - (Int.tmod a0 10)))))] : List Int)))
    )) (
    letJ (fun (v8 : List UInt8) => fun (v9 : Int) => (
    guardO (1 + v8.length ≤ 9223372036854775807) <|
    some ((bytesOf ([(IntKind.u8.wrap ((IntKind.i64.wrap ((48 : Int) + v9))))] : List Int)) ++ v8)
     : Option (List UInt8))) fun k3 =>
    spec_FormatInt_L1 F k3 F ([] : List UInt8) a0
    )

end Go.VS
namespace Go.VS
open Go
set_option linter.unusedVariables false

def spec_ParseInt_L1 (F : Nat) (v4 : List UInt8) (k3 : Int → Option (Int × Bool)) : Nat → Int → Int → Option (Int × Bool)
  | 0, _, _ => none
  | n_ + 1, u12, u13 =>
    iteO (decide (u12 < (v4.length : Int))) (
    guardO (0 ≤ u12 ∧ u12 < (v4.length : Int)) <|
    guardO ((10 : Int) ≠ 0) <|
    iteO (decide (u13 < (IntKind.i64.wrap (Int.tdiv (IntKind.i64.wrap ((-9223372036854775808 : Int) + (IntKind.i64.wrap ((IntKind.i64.wrap (((v4.getD u12.toNat 0).toNat : Int))) - 48)))) 10)))) (
    some (0, false)
    ) (
    spec_ParseInt_L1 F v4 k3 n_ (IntKind.i64.wrap (u12 + 1)) (IntKind.i64.wrap ((IntKind.i64.wrap (u13 * 10)) - (IntKind.i64.wrap ((IntKind.i64.wrap (((v4.getD u12.toNat 0).toNat : Int))) - 48))))
    )) (
    k3 u13
    )

def spec_ParseInt (F : Nat) (a0 : List UInt8) : Option (Int × Bool) :=
  bindO (iteO (decide ((a0.length : Int) > 0)) ( guardO (0 ≤ (0 : Int) ∧ (0 : Int) < (a0.length : Int)) <| some (((a0.getD (0 : Int).toNat 0).toNat : Int) == 45)) (some false)) fun b2 =>
  letJ (fun (v4 : List UInt8) => (
  bindO (spec_IsDigits F v4) fun x6 =>
  iteO ((!x6) || (decide ((v4.length : Int) > 19))) (
  some (0, false)
) (
  letJ (fun (v8 : Int) => (
  letJ (fun (v9 : Int) => (
  bindO (spec_FormatInt F F v9) fun x10 =>
  iteO (!(x10 == a0)) (
  some (0, false)
) (
  some (v9, true)
) : Option (Int × Bool))) fun k4 =>
  iteO (!b2) (
  iteO (v8 == (-9223372036854775808)) (
  some (0, false)
) (
  k4 (IntKind.i64.wrap (0 - v8))
)) (
  k4 v8
) : Option (Int × Bool))) fun k3 =>
  spec_ParseInt_L1 F v4 k3 F 0 0
) : Option (Int × Bool))) fun k1 =>
  iteO b2 (
  guardO (0 ≤ (1 : Int) ∧ (1 : Int) ≤ (a0.length : Int)) <|
  k1 (a0.drop (1 : Int).toNat)
) (
  k1 a0
)
end Go.VS
namespace Go.VS
open Go
set_option linter.unusedVariables false

def spec_l25Parse_L1 (F : Nat) (x1 : List (List UInt8)) (k2 : List Int → Option (List Int × Bool)) : Nat → Int → List Int → Option (List Int × Bool)
  | 0, _, _ => none
  | n_ + 1, u4, u5 =>
    iteO (decide (u4 < (x1.length : Int))) (
    guardO (0 ≤ u4 ∧ u4 < (x1.length : Int)) <|
    bindO (spec_ParseInt F (x1.getD u4.toNat default)) fun x7 =>
    iteO (!x7.2) (
    some ([], false)
    ) (
    guardO (u5.length + 1 ≤ maxMade) <|
    spec_l25Parse_L1 F x1 k2 n_ (IntKind.i64.wrap (u4 + 1)) (u5 ++ [x7.1])
    )) (
    k2 u5
    )

def spec_l25Parse (F : Nat) (a0 : List UInt8) : Option (List Int × Bool) :=
  iteO (a0 == ([45] : List UInt8)) (
  some (([] : List Int), true)
) (
  bindO (spec_SplitAny F a0 ([44] : List UInt8)) fun x1 =>
  letJ (fun (v3 : List Int) => (
  some (v3, true)
 : Option (List Int × Bool))) fun k2 =>
  spec_l25Parse_L1 F x1 k2 F 0 ([] : List Int)
)
end Go.VS
namespace Go.VS
open Go
set_option linter.unusedVariables false


def spec_ParseEntry (F : Nat) (a0 : List UInt8) : Option (GEntry × Bool) :=
  bindO (spec_SplitAny F a0 ([32] : List UInt8)) fun x1 =>
  iteO ((x1.length : Int) != 4) (
  some ((⟨0, [], [], []⟩ : GEntry), false)
) (
  guardO (0 ≤ (0 : Int) ∧ (0 : Int) < (x1.length : Int)) <|
  bindO (spec_ParseInt F (x1.getD (0 : Int).toNat default)) fun x4 =>
  guardO (0 ≤ (1 : Int) ∧ (1 : Int) < (x1.length : Int)) <|
  bindO (spec_l25Parse F (x1.getD (1 : Int).toNat default)) fun x7 =>
  guardO (0 ≤ (2 : Int) ∧ (2 : Int) < (x1.length : Int)) <|
  bindO (spec_l25Parse F (x1.getD (2 : Int).toNat default)) fun x10 =>
  guardO (0 ≤ (3 : Int) ∧ (3 : Int) < (x1.length : Int)) <|
  bindO (spec_l25Parse F (x1.getD (3 : Int).toNat default)) fun x13 =>
  iteO ((((!x4.2) || (!x7.2)) || (!x10.2)) || (!x13.2)) (
  some ((⟨0, [], [], []⟩ : GEntry), false)
) (
  some ((⟨x4.1, x7.1, x10.1, x13.1⟩ : GEntry), true)
))
end Go.VS
namespace Go.VS
open Go
set_option linter.unusedVariables false

def impl_SplitAny_L1 (F : Nat) (a0 : List UInt8) (a1 : List UInt8) (k1 : Int → List (List UInt8) → Option (List (List UInt8))) : Nat → Int → Int → List (List UInt8) → Option (List (List UInt8))
  | 0, _, _, _ => none
  | n_ + 1, u5, u6, u7 =>
    iteO (decide (u5 < (a0.length : Int))) (
    guardO (0 ≤ u5 ∧ u5 < (a0.length : Int)) <|
    bindO (lib_IndexByte F a1 ((a0.getD u5.toNat 0).toNat : Int)) fun x9 =>
    letJ (fun (v11 : Int) => fun (v12 : List (List UInt8)) => (
    impl_SplitAny_L1 F a0 a1 k1 n_ (IntKind.i64.wrap (u5 + 1)) v11 v12
     : Option (List (List UInt8)))) fun k5 =>
    iteO (decide (x9 ≥ 0)) (
    guardO (0 ≤ u6 ∧ u6 ≤ u5 ∧ u5 ≤ (a0.length : Int)) <|
    guardO (u7.length + 1 ≤ maxMade) <|
    k5 (IntKind.i64.wrap (u5 + 1)) (u7 ++ [((a0.take u5.toNat).drop u6.toNat)])
    ) (
    k5 u6 u7
    )) (
    k1 u6 u7
    )

def impl_SplitAny (F : Nat) (a0 : List UInt8) (a1 : List UInt8) : Option (List (List UInt8)) :=
  letJ (fun (v1 : Int) => fun (v2 : List (List UInt8)) => (
  guardO (0 ≤ v1 ∧ v1 ≤ (a0.length : Int)) <|
  guardO (v2.length + 1 ≤ maxMade) <|
  some (v2 ++ [(a0.drop v1.toNat)])
 : Option (List (List UInt8)))) fun k1 =>
  impl_SplitAny_L1 F a0 a1 k1 F 0 0 []

end Go.VS
namespace Go.VS
open Go
set_option linter.unusedVariables false


def impl_FormatInt (F : Nat) (a0 : Int) : Option (List UInt8) :=
  bindO (lib_Itoa F a0) fun x1 =>
  some x1

end Go.VS
namespace Go.VS
open Go
set_option linter.unusedVariables false


def impl_ParseInt (F : Nat) (a0 : List UInt8) : Option (Int × Bool) :=
  bindO (lib_Atoi F a0) fun x1 =>
  bindO (iteO x1.2 (some true) ( bindO (impl_FormatInt F x1.1) fun x3 => some (!(x3 == a0)))) fun b5 =>
  iteO b5 (
  some (0, false)
) (
  some (x1.1, true)
)
end Go.VS
namespace Go.VS
open Go
set_option linter.unusedVariables false

def impl_readList_L1 (F : Nat) (x1 : List (List UInt8)) (k2 : List Int → Option (List Int × Bool)) : Nat → Int → List Int → Option (List Int × Bool)
  | 0, _, _ => none
  | n_ + 1, u4, u5 =>
    iteO (decide (u4 < (x1.length : Int))) (
    guardO (0 ≤ u4 ∧ u4 < (x1.length : Int)) <|
    bindO (impl_ParseInt F (x1.getD u4.toNat default)) fun x7 =>
    iteO (!x7.2) (
    some ([], false)
    ) (
    guardO (u5.length + 1 ≤ maxMade) <|
    impl_readList_L1 F x1 k2 n_ (IntKind.i64.wrap (u4 + 1)) (u5 ++ [x7.1])
    )) (
    k2 u5
    )

def impl_readList (F : Nat) (a0 : List UInt8) : Option (List Int × Bool) :=
  iteO (a0 == ([45] : List UInt8)) (
  some ([], true)
) (
  bindO (impl_SplitAny F a0 ([44] : List UInt8)) fun x1 =>
  letJ (fun (v3 : List Int) => (
  some (v3, true)
 : Option (List Int × Bool))) fun k2 =>
  impl_readList_L1 F x1 k2 F 0 []
)
end Go.VS
namespace Go.VS
open Go
set_option linter.unusedVariables false


def impl_ParseEntry (F : Nat) (a0 : List UInt8) : Option (GEntry × Bool) :=
  bindO (impl_SplitAny F a0 ([32] : List UInt8)) fun x1 =>
  iteO ((x1.length : Int) != 4) (
  some ((⟨0, [], [], []⟩ : GEntry), false)
) (
  guardO (0 ≤ (0 : Int) ∧ (0 : Int) < (x1.length : Int)) <|
  bindO (impl_ParseInt F (x1.getD (0 : Int).toNat default)) fun x4 =>
  guardO (0 ≤ (1 : Int) ∧ (1 : Int) < (x1.length : Int)) <|
  bindO (impl_readList F (x1.getD (1 : Int).toNat default)) fun x7 =>
  guardO (0 ≤ (2 : Int) ∧ (2 : Int) < (x1.length : Int)) <|
  bindO (impl_readList F (x1.getD (2 : Int).toNat default)) fun x10 =>
  guardO (0 ≤ (3 : Int) ∧ (3 : Int) < (x1.length : Int)) <|
  bindO (impl_readList F (x1.getD (3 : Int).toNat default)) fun x13 =>
  iteO ((((!x4.2) || (!x7.2)) || (!x10.2)) || (!x13.2)) (
  some ((⟨0, [], [], []⟩ : GEntry), false)
) (
  some ((⟨x4.1, x7.1, x10.1, x13.1⟩ : GEntry), true)
))
end Go.VS
namespace Go.VS
open Go
set_option linter.unusedVariables false

def laws_eqIntS_L1 (F : Nat) (a0 : List Int) (a1 : List Int) (k2 : Option Bool) : Nat → Int → Option Bool
  | 0, _ => none
  | n_ + 1, u1 =>
    iteO (decide (u1 < (a0.length : Int))) (
    guardO (0 ≤ u1 ∧ u1 < (a0.length : Int)) <|
    guardO (0 ≤ u1 ∧ u1 < (a1.length : Int)) <|
    iteO ((a0.getD u1.toNat default) != (a1.getD u1.toNat default)) (
    some false
    ) (
    laws_eqIntS_L1 F a0 a1 k2 n_ (IntKind.i64.wrap (u1 + 1))
    )) (
    k2
    )

def laws_eqIntS (F : Nat) (a0 : List Int) (a1 : List Int) : Option Bool :=
  iteO ((a0.length : Int) != (a1.length : Int)) (
  some false
) (
  letJ ((
  some true
 : Option Bool)) fun k2 =>
  laws_eqIntS_L1 F a0 a1 k2 F 0
)
end Go.VS
namespace Go.VS
open Go
set_option linter.unusedVariables false


def laws_eqEntry (F : Nat) (a0 : GEntry) (a1 : GEntry) : Option Bool :=
  iteO (a0.fNow != a1.fNow) (
  some false
) (
  bindO (laws_eqIntS F a0.fTies a1.fTies) fun x1 =>
  iteO (!x1) (
  some false
) (
  bindO (laws_eqIntS F a0.fNodes a1.fNodes) fun x3 =>
  iteO (!x3) (
  some false
) (
  bindO (laws_eqIntS F a0.fValues a1.fValues) fun x5 =>
  iteO (!x5) (
  some false
) (
  some true
))))
end Go.VS
namespace Go.VS
open Go
set_option linter.unusedVariables false

def laws_markIntS_L1 (F : Nat) (k1 : List Int → Int → Option (Int × List Int)) : Nat → List Int → Int → Int → Option (Int × List Int)
  | 0, _, _, _ => none
  | n_ + 1, u3, u4, u5 =>
    iteO (decide (u4 < (u3.length : Int))) (
    guardO (0 ≤ u4 ∧ u4 < (u3.length : Int)) <|
    laws_markIntS_L1 F k1 n_ (u3.set u4.toNat u5) (IntKind.i64.wrap (u4 + 1)) (IntKind.i64.wrap (u5 + 1))
    ) (
    k1 u3 u5
    )

def laws_markIntS (F : Nat) (a0 : List Int) (a1 : Int) : Option (Int × List Int) :=
  letJ (fun (v1 : List Int) => fun (v2 : Int) => (
  some (v2, v1)
 : Option (Int × List Int))) fun k1 =>
  laws_markIntS_L1 F k1 F a0 0 a1

end Go.VS
namespace Go.VS
open Go
set_option linter.unusedVariables false


def laws_markEntry (F : Nat) (a0 : GEntry) (a1 : Int) : Option (Int × GEntry) :=
  bindO (laws_markIntS F a0.fTies a1) fun x1 =>
  bindO (laws_markIntS F a0.fNodes x1.1) fun x3 =>
  bindO (laws_markIntS F a0.fValues x3.1) fun x5 =>
  some (x5.1, (⟨a0.fNow, x1.2, x3.2, x5.2⟩ : GEntry))

end Go.VS
namespace Go.VS
open Go
set_option linter.unusedVariables false

def laws_heldIntS_L1 (F : Nat) (a0 : List Int) (k1 : Int → Option Int) : Nat → Int → Int → Option Int
  | 0, _, _ => none
  | n_ + 1, u2, u3 =>
    iteO (decide (u2 < (a0.length : Int))) (
    guardO (0 ≤ u2 ∧ u2 < (a0.length : Int)) <|
    iteO ((a0.getD u2.toNat default) != u3) (
    some (-1)
    ) (
    laws_heldIntS_L1 F a0 k1 n_ (IntKind.i64.wrap (u2 + 1)) (IntKind.i64.wrap (u3 + 1))
    )) (
    k1 u3
    )

def laws_heldIntS (F : Nat) (a0 : List Int) (a1 : Int) : Option Int :=
  letJ (fun (v1 : Int) => (
  some v1
 : Option Int)) fun k1 =>
  laws_heldIntS_L1 F a0 k1 F 0 a1

end Go.VS
namespace Go.VS
open Go
set_option linter.unusedVariables false


def laws_heldEntry (F : Nat) (a0 : GEntry) (a1 : Int) : Option Int :=
  bindO (laws_heldIntS F a0.fTies a1) fun x1 =>
  iteO (decide (x1 < 0)) (
  some (-1)
) (
  bindO (laws_heldIntS F a0.fNodes x1) fun x3 =>
  iteO (decide (x3 < 0)) (
  some (-1)
) (
  bindO (laws_heldIntS F a0.fValues x3) fun x5 =>
  iteO (decide (x5 < 0)) (
  some (-1)
) (
  some x5
)))
end Go.VS
namespace Go.VS
open Go
set_option linter.unusedVariables false


def laws_FnExactParseEntry (F : Nat) (a0 : List UInt8) : Option Bool :=
  iteO (decide ((a0.length : Int) > 1048576)) (
  some true
) (
  bindO (spec_ParseEntry F a0) fun x1 =>
  bindO (impl_ParseEntry F a0) fun x3 =>
  bindO (laws_eqEntry F x3.1 x1.1) fun x5 =>
  iteO ((!x5) || (!(x3.2 == x1.2))) (
  some false
) (
  bindO (laws_markEntry F x3.1 1) fun x7 =>
  bindO (laws_heldEntry F (⟨x3.1.fNow, x7.2.fTies, x7.2.fNodes, x7.2.fValues⟩ : GEntry) 1) fun x9 =>
  iteO (decide (x9 < 0)) (
  some false
) (
  iteO (x9 != x7.1) (
  some false
) (
  bindO (impl_ParseEntry F a0) fun x11 =>
  bindO (laws_eqEntry F x11.1 x1.1) fun x13 =>
  iteO ((!x13) || (!(x11.2 == x1.2))) (
  some false
) (
  bindO (laws_heldEntry F (⟨x3.1.fNow, x7.2.fTies, x7.2.fNodes, x7.2.fValues⟩ : GEntry) 1) fun x15 =>
  iteO (decide (x15 < 0)) (
  some false
) (
  iteO (x15 != x7.1) (
  some false
) (
  some true
)))))))
end Go.VS
