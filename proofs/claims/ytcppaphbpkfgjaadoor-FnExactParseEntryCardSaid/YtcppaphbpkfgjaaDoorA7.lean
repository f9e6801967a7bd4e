/- The ground of the seat. -/
import Derived.Shelf.Strings.Builder1
import Derived.Shelf.Strings.Builder2
import Derived.Shelf.Strings.OnBuilder
import Derived.Shelf.Small.Strs
import Derived.Shelf.Strconv.Atoi
import Derived.Shelf.Strconv.Itoa0
import Derived.Shelf.Strconv.Itoa1
import Derived.Shelf.LaysM
import Derived.Shelf.Strconv.Itoa2
import Derived.Shelf.Strconv.Itoa3
import Derived.Shelf.Strconv.AtoiErrFast
import Derived.Shelf.Strconv.ParseIntEmpty
import Derived.Shelf.Strconv.AtoiFail
import Derived.Shelf.Strconv.Clone
import Derived.Shelf.Strconv.SyntaxError
import Derived.Shelf.LaysC
import Derived.Shelf.Strconv.ToError
import Derived.Shelf.Strconv.Lower
import Derived.Shelf.Strconv.ParseUint10
import Derived.Shelf.Strconv.ParseUint10Empty
import Derived.Shelf.Strconv.ParseUint10Any
import Derived.Shelf.Strconv.ParseInt10
import Derived.Shelf.Strconv.AtoiLong
import Derived.Shelf.Strconv.AtoiInnerAll
import Derived.Shelf.Strconv.RangeError
import Derived.Shelf.Strconv.ToErrorRange
import Derived.Shelf.Strconv.AtoiAll
import Derived.Shelf.Strconv.ErrVarAll
import Derived.Shelf.Strings.Search1
import Derived.Shelf.Strings.Search2
import Derived.Shelf.Strings.Cut
import Derived.Shelf.Strings.Shaped
import Derived.Test.YtcppaphbpkfgjaaDoorProg
import Derived.Test.YtcppaphbpkfgjaaDoorA4
import Derived.LaidLaws
import Derived.Lib.LaidTab
import Derived.Stop.LaidErr
import Derived.Lay
import Derived.MakeChecks
namespace Go.Proofs
open Go.Shelf
def Tryd.lays156_ren : Go.Shelf.Ren := ⟨fun | 156 => 75 | 165 => 104 | 166 => 105 | 169 => 106 | 240 => 132 | 241 => 133 | 276 => 149 | 277 => 150 | n => n, fun | 31 => 43 | 9 => 9 | 3 => 3 | 4 => 4 | 0 => 0 | 20 => 20 | 72 => 122 | 76 => 98 | 70 => 120 | 37 => 30 | 75 => 97 | 127 => 140 | 164 => 151 | 5 => 5 | 80 => 124 | n => n, fun | n => n⟩
theorem Tryd.lays156 : Go.Proofs.Lays.n156 Tryd.prog Tryd.lays156_ren := {
  mixed := by kernel_rfl
  f156 := Tryd.func75.trans (congrArg some (by kernel_rfl))
  f165 := Tryd.func104.trans (congrArg some (by kernel_rfl))
  f166 := Tryd.func105.trans (congrArg some (by kernel_rfl))
  f169 := Tryd.func106.trans (congrArg some (by kernel_rfl))
  f240 := Tryd.func132.trans (congrArg some (by kernel_rfl))
  f241 := Tryd.func133.trans (congrArg some (by kernel_rfl))
  f276 := Tryd.func149.trans (congrArg some (by kernel_rfl))
  f277 := Tryd.func150.trans (congrArg some (by kernel_rfl))
  t0 := Tryd.underlying0
  a0 := Tryd.isAgg0
  z0 := Tryd.sizeOf0
  v0 := Tryd.zeroValue0
  t3 := Tryd.underlying3
  a3 := Tryd.isAgg3
  z3 := Tryd.sizeOf3
  v3 := Tryd.zeroValue3
  t4 := Tryd.underlying4
  a4 := Tryd.isAgg4
  z4 := Tryd.sizeOf4
  v4 := Tryd.zeroValue4
  t9 := Tryd.underlying9
  a9 := Tryd.isAgg9
  z9 := Tryd.sizeOf9
  v9 := Tryd.zeroValue9
  t20 := Tryd.underlying20
  a20 := Tryd.isAgg20
  z20 := Tryd.sizeOf20
  v20 := Tryd.zeroValue20
  t31 := Tryd.underlying43
  a31 := Tryd.isAgg43
  z31 := Tryd.sizeOf43
  v31 := Tryd.zeroValue43
  t37 := Tryd.underlying30
  a37 := Tryd.isAgg30
  z37 := Tryd.sizeOf30
  v37 := Tryd.zeroValue30
  t70 := Tryd.underlying120
  a70 := Tryd.isAgg120
  z70 := Tryd.sizeOf120
  v70 := Tryd.zeroValue120
  t72 := Tryd.underlying122
  a72 := Tryd.isAgg122
  z72 := Tryd.sizeOf122
  v72 := Tryd.zeroValue122
  t75 := Tryd.underlying97
  a75 := Tryd.isAgg97
  z75 := Tryd.sizeOf97
  v75 := Tryd.zeroValue97
  t76 := Tryd.underlying98
  a76 := Tryd.isAgg98
  z76 := Tryd.sizeOf98
  v76 := Tryd.zeroValue98
  t127 := Tryd.underlying140
  a127 := Tryd.isAgg140
  z127 := Tryd.sizeOf140
  v127 := Tryd.zeroValue140
  t164 := Tryd.underlying151
  a164 := Tryd.isAgg151
  z164 := Tryd.sizeOf151
  v164 := Tryd.zeroValue151 }
theorem Tryd.Builder_Extra_156 : Builder.Extra Tryd.prog Tryd.lays156_ren := {
  sizeBuilder := by kernel_rfl
  liesBuilder := by kernel_rfl
  t5 := Tryd.underlying5
  a5 := Tryd.isAgg5
  z5 := Tryd.sizeOf5
  v5 := Tryd.zeroValue5
  infoByte := by kernel_rfl
  cellsByte := by kernel_rfl
  sizeByte := by kernel_rfl
  neB5 := by decide }
open Go.RowKit in
theorem Tryd.strings_Join_none (a : Option Addr) (c : Nat) (sep : ByteArray) (w : World) :
    Calls Tryd.prog 75 #[.slice a 0 c, .string sep] w fun e w' => e = .returned (.string ⟨#[]⟩) ∧ w' = w := Any.strings_Join_none Tryd.lays156 Tryd.Builder_Extra_156 a c sep w
open Go.RowKit in
theorem Tryd.strings_Join (bk o c : Nat) (xs : List ByteArray) (sep : ByteArray) (w : World) (hcells : ∀ (j : Nat) x, xs[j]? = some x → w.cell? ⟨bk, o + j, none⟩ = some (.string x)) (hbk : bk < w.heap.size) (hN : xs.length ≤ 140737488355328) (hcap : xs.length ≤ c) (hlen : (Lib.join (xs.map (·.data.toList)) sep.data.toList).length ≤ 140737488355328) :
    Calls Tryd.prog 75 #[.slice (some ⟨bk, o, none⟩) xs.length c, .string sep] w fun e w' => e = .returned (.string ⟨(Lib.join (xs.map (·.data.toList)) sep.data.toList).toArray⟩) ∧ Below w.heap.size w w' := Any.strings_Join Tryd.lays156 Tryd.Builder_Extra_156 bk o c xs sep w hcells hbk hN hcap hlen
def Tryd.lays137_ren : Go.Shelf.Ren := ⟨fun | 137 => 71 | 217 => 100 | 266 => 126 | n => n, fun | 9 => 9 | 5 => 5 | 3 => 3 | n => n, fun | n => n⟩
theorem Tryd.lays137 : Go.Proofs.Lays.n137 Tryd.prog Tryd.lays137_ren := {
  mixed := by kernel_rfl
  f137 := Tryd.func71.trans (congrArg some (by kernel_rfl))
  f217 := Tryd.func100.trans (congrArg some (by kernel_rfl))
  f266 := Tryd.func126.trans (congrArg some (by kernel_rfl))
  t3 := Tryd.underlying3
  a3 := Tryd.isAgg3
  z3 := Tryd.sizeOf3
  v3 := Tryd.zeroValue3
  t5 := Tryd.underlying5
  a5 := Tryd.isAgg5
  z5 := Tryd.sizeOf5
  v5 := Tryd.zeroValue5
  t9 := Tryd.underlying9
  a9 := Tryd.isAgg9
  z9 := Tryd.sizeOf9
  v9 := Tryd.zeroValue9 }
open Go.RowKit in
theorem Tryd.strings_IndexByte (s : ByteArray) (c : Int) (w : World) :
    Calls Tryd.prog 71 #[.string s, .int .u8 c] w fun e w' => e = .returned (.int .i64 (Lib.indexByte s.data.toList c.toNat.toUInt8)) ∧ w' = w := Any.strings_IndexByte Tryd.lays137 s c w
def Tryd.laysM171_ren : Go.Shelf.Ren := ⟨fun | 171 => 76 | 243 => 107 | 246 => 134 | 283 => 151 | 284 => 152 | 285 => 153 | 286 => 154 | 129 => 159 | 317 => 158 | 318 => 160 | 319 => 161 | 320 => 162 | 337 => 163 | 338 => 164 | n => n, fun | 3 => 3 | 9 => 9 | 2 => 2 | 4 => 4 | 171 => 154 | 0 => 0 | 53 => 144 | 37 => 30 | 5 => 5 | 173 => 157 | 212 => 167 | 51 => 159 | 20 => 20 | 213 => 168 | 46 => 139 | 232 => 171 | 233 => 172 | n => n, fun | 17 => 3 | 18 => 4 | 19 => 5 | n => n⟩
theorem Tryd.laysM171 : Go.Proofs.LaysM.n171 Tryd.prog Tryd.laysM171_ren := {
  mixed := by kernel_rfl
  f129 := Tryd.func159.trans (congrArg some (by kernel_rfl))
  f171 := Tryd.func76.trans (congrArg some (by kernel_rfl))
  f243 := Tryd.func107.trans (congrArg some (by kernel_rfl))
  f246 := Tryd.func134.trans (congrArg some (by kernel_rfl))
  f283 := Tryd.func151.trans (congrArg some (by kernel_rfl))
  f284 := Tryd.func152.trans (congrArg some (by kernel_rfl))
  f285 := Tryd.func153.trans (congrArg some (by kernel_rfl))
  f286 := Tryd.func154.trans (congrArg some (by kernel_rfl))
  f317 := Tryd.func158.trans (congrArg some (by kernel_rfl))
  f318 := Tryd.func160.trans (congrArg some (by kernel_rfl))
  f319 := Tryd.func161.trans (congrArg some (by kernel_rfl))
  f320 := Tryd.func162.trans (congrArg some (by kernel_rfl))
  f337 := Tryd.func163.trans (congrArg some (by kernel_rfl))
  f338 := Tryd.func164.trans (congrArg some (by kernel_rfl))
  t0 := Tryd.underlying0
  a0 := Tryd.isAgg0
  z0 := Tryd.sizeOf0
  v0 := Tryd.zeroValue0
  t2 := Tryd.underlying2
  a2 := Tryd.isAgg2
  z2 := Tryd.sizeOf2
  v2 := Tryd.zeroValue2
  t3 := Tryd.underlying3
  a3 := Tryd.isAgg3
  z3 := Tryd.sizeOf3
  v3 := Tryd.zeroValue3
  t4 := Tryd.underlying4
  a4 := Tryd.isAgg4
  z4 := Tryd.sizeOf4
  v4 := Tryd.zeroValue4
  t5 := Tryd.underlying5
  a5 := Tryd.isAgg5
  z5 := Tryd.sizeOf5
  v5 := Tryd.zeroValue5
  t9 := Tryd.underlying9
  a9 := Tryd.isAgg9
  z9 := Tryd.sizeOf9
  v9 := Tryd.zeroValue9
  t20 := Tryd.underlying20
  a20 := Tryd.isAgg20
  z20 := Tryd.sizeOf20
  v20 := Tryd.zeroValue20
  t37 := Tryd.underlying30
  a37 := Tryd.isAgg30
  z37 := Tryd.sizeOf30
  v37 := Tryd.zeroValue30
  t46 := Tryd.underlying139
  a46 := Tryd.isAgg139
  z46 := Tryd.sizeOf139
  v46 := Tryd.zeroValue139
  t51 := Tryd.underlying159
  a51 := Tryd.isAgg159
  z51 := Tryd.sizeOf159
  v51 := Tryd.zeroValue159
  t53 := Tryd.underlying144
  a53 := Tryd.isAgg144
  z53 := Tryd.sizeOf144
  v53 := Tryd.zeroValue144
  t171 := Tryd.underlying154
  a171 := Tryd.isAgg154
  z171 := Tryd.sizeOf154
  v171 := Tryd.zeroValue154
  t173 := Tryd.underlying157
  a173 := Tryd.isAgg157
  z173 := Tryd.sizeOf157
  v173 := Tryd.zeroValue157
  t212 := Tryd.underlying167
  a212 := Tryd.isAgg167
  z212 := Tryd.sizeOf167
  v212 := Tryd.zeroValue167
  t213 := Tryd.underlying168
  a213 := Tryd.isAgg168
  z213 := Tryd.sizeOf168
  t232 := Tryd.underlying171
  a232 := Tryd.isAgg171
  z232 := Tryd.sizeOf171
  v232 := Tryd.zeroValue171
  t233 := Tryd.underlying172
  a233 := Tryd.isAgg172
  z233 := Tryd.sizeOf172
  v233 := Tryd.zeroValue172
  g17 := by kernel_rfl
  g18 := by kernel_rfl
  g19 := by kernel_rfl
  i0 := by kernel_rfl
  i2 := by kernel_rfl
  i3 := by kernel_rfl
  i4 := by kernel_rfl
  i5 := by kernel_rfl
  i9 := by kernel_rfl
  i20 := by kernel_rfl
  i37 := by kernel_rfl
  i46 := by kernel_rfl
  i51 := by kernel_rfl
  i53 := by kernel_rfl
  i171 := by kernel_rfl
  i173 := by kernel_rfl
  i212 := by kernel_rfl
  i232 := by kernel_rfl
  i233 := by kernel_rfl
  m17 := by kernel_rfl
  m18 := by kernel_rfl
  m19 := by kernel_rfl }
open Go.RowKit Go.Sort Go.Lib in
theorem Tryd.strconv_Itoa (n : Int) (h0 : -9223372036854775808 ≤ n) (h1 : n ≤ 9223372036854775807) (w : World) (htab : Lib.TabIs Tryd.prog w "internal/strconv.uint64pow10" .u64 Lib.pow10Tab) :
    Calls Tryd.prog 76 #[.int .i64 n] w fun e w' => e = .returned (.string ⟨(Lib.itoa n).toArray⟩) ∧ ∃ k os, w' = grow (w.drewN k) os := Any.strconv_Itoa Tryd.laysM171 n h0 h1 w htab
def Tryd.laysC172_ren : Go.Shelf.Ren := ⟨fun | 172 => 72 | 244 => 101 | 245 => 102 | 247 => 127 | 279 => 128 | 280 => 129 | 281 => 130 | 282 => 131 | 287 => 146 | 316 => 147 | 171 => 76 | 205 => 148 | 321 => 156 | 322 => 157 | 243 => 107 | 246 => 134 | 283 => 151 | 284 => 152 | 285 => 153 | 286 => 154 | 129 => 159 | 317 => 158 | 318 => 160 | 319 => 161 | 320 => 162 | 337 => 163 | 338 => 164 | n => n, fun | 9 => 9 | 3 => 3 | 75 => 97 | 76 => 98 | 4 => 4 | 5 => 5 | 167 => 133 | 37 => 30 | 0 => 0 | 85 => 134 | 2 => 2 | 168 => 136 | 53 => 144 | 175 => 145 | 46 => 139 | 210 => 149 | 127 => 140 | 145 => 165 | 143 => 163 | 21 => 21 | 171 => 154 | 173 => 157 | 212 => 167 | 51 => 159 | 20 => 20 | 213 => 168 | 232 => 171 | 233 => 172 | 80 => 124 | n => n, fun | 15 => 1 | 16 => 2 | 17 => 3 | 18 => 4 | 19 => 5 | n => n⟩
theorem Tryd.laysC172 : Go.Proofs.LaysC.n172 Tryd.prog Tryd.laysC172_ren := {
  mixed := by kernel_rfl
  f129 := Tryd.func159.trans (congrArg some (by kernel_rfl))
  f171 := Tryd.func76.trans (congrArg some (by kernel_rfl))
  f172 := Tryd.func72.trans (congrArg some (by kernel_rfl))
  f205 := Tryd.func148.trans (congrArg some (by kernel_rfl))
  f243 := Tryd.func107.trans (congrArg some (by kernel_rfl))
  f244 := Tryd.func101.trans (congrArg some (by kernel_rfl))
  f245 := Tryd.func102.trans (congrArg some (by kernel_rfl))
  f246 := Tryd.func134.trans (congrArg some (by kernel_rfl))
  f247 := Tryd.func127.trans (congrArg some (by kernel_rfl))
  f279 := Tryd.func128.trans (congrArg some (by kernel_rfl))
  f280 := Tryd.func129.trans (congrArg some (by kernel_rfl))
  f281 := Tryd.func130.trans (congrArg some (by kernel_rfl))
  f282 := Tryd.func131.trans (congrArg some (by kernel_rfl))
  f283 := Tryd.func151.trans (congrArg some (by kernel_rfl))
  f284 := Tryd.func152.trans (congrArg some (by kernel_rfl))
  f285 := Tryd.func153.trans (congrArg some (by kernel_rfl))
  f286 := Tryd.func154.trans (congrArg some (by kernel_rfl))
  f287 := Tryd.func146.trans (congrArg some (by kernel_rfl))
  f316 := Tryd.func147.trans (congrArg some (by kernel_rfl))
  f317 := Tryd.func158.trans (congrArg some (by kernel_rfl))
  f318 := Tryd.func160.trans (congrArg some (by kernel_rfl))
  f319 := Tryd.func161.trans (congrArg some (by kernel_rfl))
  f320 := Tryd.func162.trans (congrArg some (by kernel_rfl))
  f321 := Tryd.func156.trans (congrArg some (by kernel_rfl))
  f322 := Tryd.func157.trans (congrArg some (by kernel_rfl))
  f337 := Tryd.func163.trans (congrArg some (by kernel_rfl))
  f338 := Tryd.func164.trans (congrArg some (by kernel_rfl))
  t0 := Tryd.underlying0
  a0 := Tryd.isAgg0
  z0 := Tryd.sizeOf0
  v0 := Tryd.zeroValue0
  t2 := Tryd.underlying2
  a2 := Tryd.isAgg2
  z2 := Tryd.sizeOf2
  v2 := Tryd.zeroValue2
  t3 := Tryd.underlying3
  a3 := Tryd.isAgg3
  z3 := Tryd.sizeOf3
  v3 := Tryd.zeroValue3
  t4 := Tryd.underlying4
  a4 := Tryd.isAgg4
  z4 := Tryd.sizeOf4
  v4 := Tryd.zeroValue4
  t5 := Tryd.underlying5
  a5 := Tryd.isAgg5
  z5 := Tryd.sizeOf5
  v5 := Tryd.zeroValue5
  t9 := Tryd.underlying9
  a9 := Tryd.isAgg9
  z9 := Tryd.sizeOf9
  v9 := Tryd.zeroValue9
  t20 := Tryd.underlying20
  a20 := Tryd.isAgg20
  z20 := Tryd.sizeOf20
  v20 := Tryd.zeroValue20
  t21 := Tryd.underlying21
  a21 := Tryd.isAgg21
  z21 := Tryd.sizeOf21
  v21 := Tryd.zeroValue21
  t37 := Tryd.underlying30
  a37 := Tryd.isAgg30
  z37 := Tryd.sizeOf30
  v37 := Tryd.zeroValue30
  t46 := Tryd.underlying139
  a46 := Tryd.isAgg139
  z46 := Tryd.sizeOf139
  v46 := Tryd.zeroValue139
  t51 := Tryd.underlying159
  a51 := Tryd.isAgg159
  z51 := Tryd.sizeOf159
  v51 := Tryd.zeroValue159
  t53 := Tryd.underlying144
  a53 := Tryd.isAgg144
  z53 := Tryd.sizeOf144
  v53 := Tryd.zeroValue144
  t75 := Tryd.underlying97
  a75 := Tryd.isAgg97
  z75 := Tryd.sizeOf97
  v75 := Tryd.zeroValue97
  t76 := Tryd.underlying98
  a76 := Tryd.isAgg98
  z76 := Tryd.sizeOf98
  v76 := Tryd.zeroValue98
  t85 := Tryd.underlying134
  a85 := Tryd.isAgg134
  z85 := Tryd.sizeOf134
  v85 := Tryd.zeroValue134
  t127 := Tryd.underlying140
  a127 := Tryd.isAgg140
  z127 := Tryd.sizeOf140
  v127 := Tryd.zeroValue140
  t143 := Tryd.underlying163
  a143 := Tryd.isAgg163
  z143 := Tryd.sizeOf163
  v143 := Tryd.zeroValue163
  t145 := Tryd.underlying165
  a145 := Tryd.isAgg165
  z145 := Tryd.sizeOf165
  v145 := Tryd.zeroValue165
  t167 := Tryd.underlying133
  a167 := Tryd.isAgg133
  z167 := Tryd.sizeOf133
  v167 := Tryd.zeroValue133
  t168 := Tryd.underlying136
  a168 := Tryd.isAgg136
  z168 := Tryd.sizeOf136
  v168 := Tryd.zeroValue136
  t171 := Tryd.underlying154
  a171 := Tryd.isAgg154
  z171 := Tryd.sizeOf154
  v171 := Tryd.zeroValue154
  t173 := Tryd.underlying157
  a173 := Tryd.isAgg157
  z173 := Tryd.sizeOf157
  v173 := Tryd.zeroValue157
  t175 := Tryd.underlying145
  a175 := Tryd.isAgg145
  z175 := Tryd.sizeOf145
  v175 := Tryd.zeroValue145
  t210 := Tryd.underlying149
  a210 := Tryd.isAgg149
  z210 := Tryd.sizeOf149
  v210 := Tryd.zeroValue149
  t212 := Tryd.underlying167
  a212 := Tryd.isAgg167
  z212 := Tryd.sizeOf167
  v212 := Tryd.zeroValue167
  t213 := Tryd.underlying168
  a213 := Tryd.isAgg168
  z213 := Tryd.sizeOf168
  t232 := Tryd.underlying171
  a232 := Tryd.isAgg171
  z232 := Tryd.sizeOf171
  v232 := Tryd.zeroValue171
  t233 := Tryd.underlying172
  a233 := Tryd.isAgg172
  z233 := Tryd.sizeOf172
  v233 := Tryd.zeroValue172
  g15 := by kernel_rfl
  g16 := by kernel_rfl
  g17 := by kernel_rfl
  g18 := by kernel_rfl
  g19 := by kernel_rfl
  t80 := Tryd.underlying124
  a80 := Tryd.isAgg124
  z80 := Tryd.sizeOf124
  v80 := Tryd.zeroValue124
  i0 := by kernel_rfl
  i2 := by kernel_rfl
  i3 := by kernel_rfl
  i4 := by kernel_rfl
  i5 := by kernel_rfl
  i9 := by kernel_rfl
  i20 := by kernel_rfl
  i21 := by kernel_rfl
  i37 := by kernel_rfl
  i46 := by kernel_rfl
  i51 := by kernel_rfl
  i53 := by kernel_rfl
  i75 := by kernel_rfl
  i76 := by kernel_rfl
  i80 := by kernel_rfl
  i85 := by kernel_rfl
  i127 := by kernel_rfl
  i143 := by kernel_rfl
  i145 := by kernel_rfl
  i167 := by kernel_rfl
  i168 := by kernel_rfl
  i171 := by kernel_rfl
  i173 := by kernel_rfl
  i175 := by kernel_rfl
  i210 := by kernel_rfl
  i212 := by kernel_rfl
  i232 := by kernel_rfl
  i233 := by kernel_rfl
  m15 := by kernel_rfl
  m16 := by kernel_rfl
  m17 := by kernel_rfl
  m18 := by kernel_rfl
  m19 := by kernel_rfl
  c0 := by kernel_rfl
  c2 := by kernel_rfl
  c3 := by kernel_rfl
  c4 := by kernel_rfl
  c5 := by kernel_rfl
  c9 := by kernel_rfl
  c20 := by kernel_rfl
  c21 := by kernel_rfl
  c37 := by kernel_rfl
  c46 := by kernel_rfl
  c51 := by kernel_rfl
  c53 := by kernel_rfl
  c75 := by kernel_rfl
  c76 := by kernel_rfl
  c80 := by kernel_rfl
  c85 := by kernel_rfl
  c127 := by kernel_rfl
  c143 := by kernel_rfl
  c145 := by kernel_rfl
  c167 := by kernel_rfl
  c168 := by kernel_rfl
  c171 := by kernel_rfl
  c173 := by kernel_rfl
  c175 := by kernel_rfl
  c210 := by kernel_rfl
  c212 := by kernel_rfl
  c213 := by kernel_rfl
  c232 := by kernel_rfl
  c233 := by kernel_rfl }
open Go.RowKit in
theorem Tryd.strconv_Atoi_ok (s : ByteArray) (hmax : s.size ≤ 9223372036854775806) (v : Int) (h : Lib.atoiAll s.data.toList = .ok v) (w : World) :
    Calls Tryd.prog 72 #[.string s] w fun e w' => e = .returned (.tuple #[.int .i64 v, .nilIface]) ∧ (w' = w ∨ ∃ t, w' = Lib.bytesWorld w 5 t) := Any.strconv_Atoi_ok Tryd.laysC172 s hmax v h w
open Go.RowKit in
theorem Tryd.strconv_Atoi_range_var (s : ByteArray) (hlim : s.size ≤ 281474976710656) (h : Lib.atoiAll s.data.toList = .range) (tp : TypeId) (p : Value) (w : World) (hvar : w.var? Tryd.prog "strconv.ErrRange" = some #[.iface tp p]) :
    Calls Tryd.prog 72 #[.string s] w fun e w' => ∃ N, e = .returned (.tuple #[.int .i64 (Lib.atoiSat s.data.toList), .iface 136 (.pointer (some ⟨N, 0, none⟩))]) ∧ w.heap.size ≤ N ∧ w'.heap[N]? = some (.cells #[.string ⟨#[65, 116, 111, 105]⟩, .string s, .iface tp p] 149 (0, 0)) ∧ Below w.heap.size w w' := Any.strconv_Atoi_range_var Tryd.laysC172 s hlim h tp p w hvar
def Tryd.lays145_ren : Go.Shelf.Ren := ⟨fun | 145 => 49 | 220 => 78 | 219 => 108 | 217 => 100 | 225 => 135 | 224 => 136 | 267 => 137 | 266 => 126 | 314 => 155 | n => n, fun | 9 => 9 | 4 => 4 | 59 => 77 | 3 => 3 | 5 => 5 | 46 => 139 | 146 => 160 | 51 => 159 | n => n, fun | 1 => 0 | n => n⟩
theorem Tryd.lays145 : Go.Proofs.Lays.n145 Tryd.prog Tryd.lays145_ren := {
  mixed := by kernel_rfl
  f145 := Tryd.func49.trans (congrArg some (by kernel_rfl))
  f217 := Tryd.func100.trans (congrArg some (by kernel_rfl))
  f219 := Tryd.func108.trans (congrArg some (by kernel_rfl))
  f220 := Tryd.func78.trans (congrArg some (by kernel_rfl))
  f224 := Tryd.func136.trans (congrArg some (by kernel_rfl))
  f225 := Tryd.func135.trans (congrArg some (by kernel_rfl))
  f266 := Tryd.func126.trans (congrArg some (by kernel_rfl))
  f267 := Tryd.func137.trans (congrArg some (by kernel_rfl))
  f314 := Tryd.func155.trans (congrArg some (by kernel_rfl))
  t3 := Tryd.underlying3
  a3 := Tryd.isAgg3
  z3 := Tryd.sizeOf3
  v3 := Tryd.zeroValue3
  t4 := Tryd.underlying4
  a4 := Tryd.isAgg4
  z4 := Tryd.sizeOf4
  v4 := Tryd.zeroValue4
  t5 := Tryd.underlying5
  a5 := Tryd.isAgg5
  z5 := Tryd.sizeOf5
  v5 := Tryd.zeroValue5
  t9 := Tryd.underlying9
  a9 := Tryd.isAgg9
  z9 := Tryd.sizeOf9
  v9 := Tryd.zeroValue9
  t46 := Tryd.underlying139
  a46 := Tryd.isAgg139
  z46 := Tryd.sizeOf139
  v46 := Tryd.zeroValue139
  t51 := Tryd.underlying159
  a51 := Tryd.isAgg159
  z51 := Tryd.sizeOf159
  v51 := Tryd.zeroValue159
  t59 := Tryd.underlying77
  a59 := Tryd.isAgg77
  z59 := Tryd.sizeOf77
  v59 := Tryd.zeroValue77
  t146 := Tryd.underlying160
  a146 := Tryd.isAgg160
  z146 := Tryd.sizeOf160
  v146 := Tryd.zeroValue160
  g1 := by kernel_rfl }
open Go.RowKit Go.Lib in
theorem Tryd.strings_Cut (s sep : ByteArray) (m : Int) (w : World) (hs : s.size < 4294967281) (hm : w.cell? ⟨0, 0, none⟩ = some (.int .i64 m)) :
    Calls Tryd.prog 49 #[.string s, .string sep] w fun e w' => e = .returned (.tuple #[.string ⟨(Lib.cut s.data.toList sep.data.toList).1.toArray⟩, .string ⟨(Lib.cut s.data.toList sep.data.toList).2.1.toArray⟩, .bool (Lib.cut s.data.toList sep.data.toList).2.2]) ∧ ∃ n, w' = w.drewN n := Any.strings_Cut Tryd.lays145 s sep m w hs hm
end Go.Proofs
namespace Go.VS
open Go Go.Proofs.Tryd
structure GW (w : World) : Prop where
  tab : Lib.TabIs prog w "internal/strconv.uint64pow10" .u64 Lib.pow10Tab
  syn : ∃ tp p, w.var? prog "strconv.ErrSyntax" = some #[.iface tp p]
  rng : ∃ tp p, w.var? prog "strconv.ErrRange" = some #[.iface tp p]
  size : 6 ≤ w.heap.size
theorem var_stable {w w' : World} {n : String} {g : Nat} (hb : ∀ b, b < 6 → w'.heap[b]? = w.heap[b]?) (hg : prog.globalNamed n = some g) (hlt : g < 6) : w'.var? prog n = w.var? prog n := by
  unfold World.var?
  simp only [hg, Option.bind_some]
  rw [hb g hlt]
theorem GW.stable {w w' : World} (hb : ∀ b, b < 6 → w'.heap[b]? = w.heap[b]?) (h : GW w) : GW w' where
  tab := by
    have := h.tab
    unfold Lib.TabIs at this ⊢
    rw [var_stable hb (g := 3) (by kernel_rfl) (by decide)]; exact this
  syn := by rw [var_stable hb (g := 1) (by kernel_rfl) (by decide)]; exact h.syn
  rng := by rw [var_stable hb (g := 2) (by kernel_rfl) (by decide)]; exact h.rng
  size := by
    have h5 := h.size
    have : w.heap[6 - 1]? = some w.heap[6 - 1] := by simp
    rw [← hb (6 - 1) (by decide)] at this
    have := (Array.getElem?_eq_some_iff.1 this).1
    omega
noncomputable def cx : Ctx where
  P := prog
  G := GW
  NG := 6
  K := fun _ _ _ _ _ _ => False
  stableG := fun _ _ hb _ _ _ h => h.stable hb
  stableK := fun _ _ _ _ _ _ _ _ _ _ h => h
  oneK := fun _ _ _ _ _ _ h => h.elim
  sizeG := fun _ h => h.size
  mixed := by kernel_rfl
@[go_sem] theorem cxP : cx.P = prog := rfl
/-! calls of the library -/
theorem below_hinv {w w' : World} {Φ : Nat → Prop} {H : Tag → TI} (hi : HInv cx w Φ H) (hb : RowKit.Below w.heap.size w w') : HInv cx w' Φ H :=
  hi.keep (fun _ h => h) (fun _ h => .inl h) (fun b h => hb.block b h) hb.size
theorem below_fr {w w' : World} {Φ : Nat → Prop} {H : Tag → TI} (hb : RowKit.Below w.heap.size w w') : Fr w Φ H w' Φ H :=
  ⟨hb.size, hb.os, hb.tape, hb.output, fun b h _ => hb.block b h, fun _ h => h, fun _ h => .inl h, fun g _ h => .inr ⟨g, h⟩, fun _ h => h⟩
theorem below_grow (w : World) (k : Nat) (os : Array Obj) : RowKit.Below w.heap.size w (Sort.grow (w.drewN k) os) :=
  ⟨rfl, rfl, rfl, by simp [Sort.grow, World.drewN], fun b hb => by simp [Sort.grow, World.drewN, Array.getElem?_append, hb]⟩
theorem okp_scalar {n : FuncId} {r : AV} {R : AV → List AV → Prop} (xs : List DV) (vals : Array Value)
    (hx : ∀ (w : World) (Φ : Nat → Prop) (vs : Array Value), vs.size = xs.length → (∀ (i : Nat) v x, vs[i]? = some v → xs[i]? = some x → RC w Φ v x) → vs = vals)
    (hc : ∀ w, GW w → Calls prog n vals w fun e w' => ∃ res, e = .returned res ∧ (∀ w Φ H, RA cx w Φ H res r) ∧ RowKit.Below w.heap.size w w') (hR : R r []) : Okp cx n (xs.map fun x => .one (.d x)) R := by
  intro w Φ H vs hG hi hs hargs
  have hv := hx w Φ vs (by simpa using hs) (fun i v x h1 h2 => by
    have := hargs i v _ h1 (by rw [List.getElem?_map, h2]; rfl)
    cases this with
    | one _ _ hl => cases hl with | d _ _ hc => exact hc)
  subst hv
  refine (hc w hG).mono ?_
  rintro e w' ⟨res, rfl, hra, hb⟩
  exact ⟨res, r, [], Φ, H, rfl, hR, below_hinv hi hb, cx.stableG w w' (fun b hb' => hb.block b (Nat.lt_of_lt_of_le hb' (cx.sizeG w hG))) hb.os hb.tape hb.output hG, hra _ _ _, fun i v a _ h => by simp at h, below_fr hb⟩
theorem one_of {vs : Array Value} (h : vs.size = 1) : ∃ v, vs = #[v] := by
  obtain ⟨l⟩ := vs
  match l, h with
  | [v], _ => exact ⟨v, rfl⟩
theorem two_of {vs : Array Value} (h : vs.size = 2) : ∃ v u, vs = #[v, u] := by
  obtain ⟨l⟩ := vs
  match l, h with
  | [v, u], _ => exact ⟨v, u, rfl⟩
theorem one_int {w : World} {Φ : Nat → Prop} {vs : Array Value} {a : Int} (hs : vs.size = 1) (hv : ∀ (i : Nat) v x, vs[i]? = some v → [DV.int .i64 a][i]? = some x → RC w Φ v x) : vs = #[.int .i64 a] := by
  obtain ⟨v, rfl⟩ := one_of hs
  have := hv 0 v _ rfl rfl
  cases this; rfl
theorem one_str {w : World} {Φ : Nat → Prop} {vs : Array Value} {a : ByteArray} (hs : vs.size = 1) (hv : ∀ (i : Nat) v x, vs[i]? = some v → [DV.str a][i]? = some x → RC w Φ v x) : vs = #[.string a] := by
  obtain ⟨v, rfl⟩ := one_of hs
  have := hv 0 v _ rfl rfl
  cases this; rfl
theorem two_vals {w : World} {Φ : Nat → Prop} {vs : Array Value} {a b : DV} {x y : Value} (hs : vs.size = 2) (hv : ∀ (i : Nat) v x, vs[i]? = some v → [a, b][i]? = some x → RC w Φ v x) (hx : ∀ v, RC w Φ v a → v = x) (hy : ∀ v, RC w Φ v b → v = y) : vs = #[x, y] := by
  obtain ⟨v, u, rfl⟩ := two_of hs
  rw [hx v (hv 0 v _ rfl rfl), hy u (hv 1 u _ rfl rfl)]

theorem cells3 : prog.cellsOf 3 = 1 := by kernel_rfl
theorem agg3 : tAgg prog 3 = some false := by kernel_rfl
theorem cells4 : prog.cellsOf 4 = 1 := by kernel_rfl
theorem agg4 : tAgg prog 4 = some false := by kernel_rfl
theorem bool4 : tBool prog 4 = true := by kernel_rfl
theorem cells5 : prog.cellsOf 5 = 1 := by kernel_rfl
theorem agg5 : tAgg prog 5 = some false := by kernel_rfl
theorem cells9 : prog.cellsOf 9 = 1 := by kernel_rfl
theorem agg9 : tAgg prog 9 = some false := by kernel_rfl
theorem str9 : tStr prog 9 = true := by kernel_rfl
theorem cells22 : prog.cellsOf 22 = 1 := by kernel_rfl
theorem agg22 : tAgg prog 22 = some false := by kernel_rfl
theorem elem22 : tElem prog 22 = some 3 := by kernel_rfl
theorem slice22 : tSlice prog 22 = true := by kernel_rfl
theorem cells24 : prog.cellsOf 24 = 4 := by kernel_rfl
theorem agg24 : tAgg prog 24 = some true := by kernel_rfl
theorem cells30 : prog.cellsOf 30 = 1 := by kernel_rfl
theorem agg30 : tAgg prog 30 = some false := by kernel_rfl
theorem elem30 : tElem prog 30 = some 5 := by kernel_rfl
theorem slice30 : tSlice prog 30 = true := by kernel_rfl
theorem cells38 : prog.cellsOf 38 = 1 := by kernel_rfl
theorem agg38 : tAgg prog 38 = some false := by kernel_rfl
theorem elem38 : tElem prog 38 = some 105 := by kernel_rfl
theorem slice38 : tSlice prog 38 = true := by kernel_rfl
theorem cells39 : prog.cellsOf 39 = 1 := by kernel_rfl
theorem agg39 : tAgg prog 39 = some false := by kernel_rfl
theorem elem39 : tElem prog 39 = some 110 := by kernel_rfl
theorem slice39 : tSlice prog 39 = true := by kernel_rfl
theorem cells41 : prog.cellsOf 41 = 3 := by kernel_rfl
theorem agg41 : tAgg prog 41 = some true := by kernel_rfl
theorem cells43 : prog.cellsOf 43 = 1 := by kernel_rfl
theorem agg43 : tAgg prog 43 = some false := by kernel_rfl
theorem elem43 : tElem prog 43 = some 9 := by kernel_rfl
theorem slice43 : tSlice prog 43 = true := by kernel_rfl
theorem cells45 : prog.cellsOf 45 = 1 := by kernel_rfl
theorem agg45 : tAgg prog 45 = some false := by kernel_rfl
theorem elem45 : tElem prog 45 = some 85 := by kernel_rfl
theorem slice45 : tSlice prog 45 = true := by kernel_rfl
theorem cells46 : prog.cellsOf 46 = 1 := by kernel_rfl
theorem agg46 : tAgg prog 46 = some false := by kernel_rfl
theorem elem46 : tElem prog 46 = some 83 := by kernel_rfl
theorem slice46 : tSlice prog 46 = true := by kernel_rfl
theorem cells48 : prog.cellsOf 48 = 3 := by kernel_rfl
theorem agg48 : tAgg prog 48 = some true := by kernel_rfl
theorem cells58 : prog.cellsOf 58 = 3 := by kernel_rfl
theorem agg58 : tAgg prog 58 = some true := by kernel_rfl
theorem cells61 : prog.cellsOf 61 = 3 := by kernel_rfl
theorem agg61 : tAgg prog 61 = some true := by kernel_rfl
theorem cells83 : prog.cellsOf 83 = 5 := by kernel_rfl
theorem agg83 : tAgg prog 83 = some true := by kernel_rfl
theorem cells85 : prog.cellsOf 85 = 3 := by kernel_rfl
theorem agg85 : tAgg prog 85 = some true := by kernel_rfl
theorem cells97 : prog.cellsOf 97 = 1 := by kernel_rfl
theorem agg97 : tAgg prog 97 = some false := by kernel_rfl
theorem iface97 : tIface prog 97 = true := by kernel_rfl
theorem cells105 : prog.cellsOf 105 = 3 := by kernel_rfl
theorem agg105 : tAgg prog 105 = some true := by kernel_rfl
theorem cells110 : prog.cellsOf 110 = 5 := by kernel_rfl
theorem agg110 : tAgg prog 110 = some true := by kernel_rfl
theorem bytes3 : prog.bytesOf 3 = 8 := by kernel_rfl
theorem bytes9 : prog.bytesOf 9 = 16 := by kernel_rfl
theorem off105_0 : tOff prog 105 0 = some (0, 9) := by kernel_rfl
theorem off105_1 : tOff prog 105 1 = some (1, 22) := by kernel_rfl
theorem off105_2 : tOff prog 105 2 = some (2, 3) := by kernel_rfl
theorem off110_0 : tOff prog 110 0 = some (0, 3) := by kernel_rfl
theorem off110_1 : tOff prog 110 1 = some (1, 3) := by kernel_rfl
theorem off110_2 : tOff prog 110 2 = some (2, 3) := by kernel_rfl
theorem off110_3 : tOff prog 110 3 = some (3, 3) := by kernel_rfl
theorem off110_4 : tOff prog 110 4 = some (4, 4) := by kernel_rfl
theorem off24_0 : tOff prog 24 0 = some (0, 3) := by kernel_rfl
theorem off24_1 : tOff prog 24 1 = some (1, 22) := by kernel_rfl
theorem off24_2 : tOff prog 24 2 = some (2, 22) := by kernel_rfl
theorem off24_3 : tOff prog 24 3 = some (3, 22) := by kernel_rfl
theorem off41_0 : tOff prog 41 0 = some (0, 38) := by kernel_rfl
theorem off41_1 : tOff prog 41 1 = some (1, 39) := by kernel_rfl
theorem off41_2 : tOff prog 41 2 = some (2, 3) := by kernel_rfl
theorem off48_0 : tOff prog 48 0 = some (0, 45) := by kernel_rfl
theorem off48_1 : tOff prog 48 1 = some (1, 46) := by kernel_rfl
theorem off48_2 : tOff prog 48 2 = some (2, 3) := by kernel_rfl
theorem off58_0 : tOff prog 58 0 = some (0, 3) := by kernel_rfl
theorem off58_1 : tOff prog 58 1 = some (1, 22) := by kernel_rfl
theorem off58_2 : tOff prog 58 2 = some (2, 22) := by kernel_rfl
theorem off61_0 : tOff prog 61 0 = some (0, 3) := by kernel_rfl
theorem off61_1 : tOff prog 61 1 = some (1, 22) := by kernel_rfl
theorem off61_2 : tOff prog 61 2 = some (2, 22) := by kernel_rfl
theorem off83_0 : tOff prog 83 0 = some (0, 3) := by kernel_rfl
theorem off83_1 : tOff prog 83 1 = some (1, 3) := by kernel_rfl
theorem off83_2 : tOff prog 83 2 = some (2, 3) := by kernel_rfl
theorem off83_3 : tOff prog 83 3 = some (3, 3) := by kernel_rfl
theorem off83_4 : tOff prog 83 4 = some (4, 4) := by kernel_rfl
theorem off85_0 : tOff prog 85 0 = some (0, 9) := by kernel_rfl
theorem off85_1 : tOff prog 85 1 = some (1, 22) := by kernel_rfl
theorem off85_2 : tOff prog 85 2 = some (2, 3) := by kernel_rfl
theorem places24 : tPlaces prog 24 = true := by kernel_rfl
theorem und3 : prog.underlying 3 = some (.int .i64) := by kernel_rfl
theorem und30 : prog.underlying 30 = some (.slice 5) := by kernel_rfl
theorem und5 : prog.underlying 5 = some (.int .u8) := by kernel_rfl
theorem und9 : prog.underlying 9 = some (.string) := by kernel_rfl
theorem zero24 : tZero prog 24 = some [.int .i64 0, .slice none 0 0, .slice none 0 0, .slice none 0 0] := by kernel_rfl
theorem zrow24 : zeroR prog 24 [.int .i64 0, .slice none 0 0, .slice none 0 0, .slice none 0 0] = some [.int .i64 0, .list 1 [], .list 1 [], .list 1 []] := by kernel_rfl
theorem zero3 : tZero prog 3 = some [.int .i64 0] := by kernel_rfl
theorem zrow3 : zeroR prog 3 [.int .i64 0] = some [.int .i64 0] := by kernel_rfl
theorem zero48 : tZero prog 48 = some [.slice none 0 0, .slice none 0 0, .int .i64 0] := by kernel_rfl
theorem zrow48 : zeroR prog 48 [.slice none 0 0, .slice none 0 0, .int .i64 0] = some [.list 3 [], .list 5 [], .int .i64 0] := by kernel_rfl
theorem zero5 : tZero prog 5 = some [.int .u8 0] := by kernel_rfl
theorem zrow5 : zeroR prog 5 [.int .u8 0] = some [.int .u8 0] := by kernel_rfl
theorem zero61 : tZero prog 61 = some [.int .i64 0, .slice none 0 0, .slice none 0 0] := by kernel_rfl
theorem zrow61 : zeroR prog 61 [.int .i64 0, .slice none 0 0, .slice none 0 0] = some [.int .i64 0, .list 1 [], .list 1 []] := by kernel_rfl
theorem zero83 : tZero prog 83 = some [.int .i64 0, .int .i64 0, .int .i64 0, .int .i64 0, .bool false] := by kernel_rfl
theorem zrow83 : zeroR prog 83 [.int .i64 0, .int .i64 0, .int .i64 0, .int .i64 0, .bool false] = some [.int .i64 0, .int .i64 0, .int .i64 0, .int .i64 0, .bool false] := by kernel_rfl
theorem zero85 : tZero prog 85 = some [.string ⟨#[]⟩, .slice none 0 0, .int .i64 0] := by kernel_rfl
theorem zrow85 : zeroR prog 85 [.string (B []), .slice none 0 0, .int .i64 0] = some [.str (B []), .list 1 [], .int .i64 0] := by kernel_rfl
theorem zero9 : tZero prog 9 = some [.string ⟨#[]⟩] := by kernel_rfl
theorem zrow9 : zeroR prog 9 [.string (B [])] = some [.str (B [])] := by kernel_rfl
attribute [go_sem] cells3 agg3 cells4 agg4 bool4 cells5 agg5 cells9 agg9 str9 cells22 agg22 elem22 slice22 cells24 agg24 cells30 agg30 elem30 slice30 cells38 agg38 elem38 slice38 cells39 agg39 elem39 slice39 cells41 agg41 cells43 agg43 elem43 slice43 cells45 agg45 elem45 slice45 cells46 agg46 elem46 slice46 cells48 agg48 cells58 agg58 cells61 agg61 cells83 agg83 cells85 agg85 cells97 agg97 iface97 cells105 agg105 cells110 agg110 bytes3 bytes9 off105_0 off105_1 off105_2 off110_0 off110_1 off110_2 off110_3 off110_4 off24_0 off24_1 off24_2 off24_3 off41_0 off41_1 off41_2 off48_0 off48_1 off48_2 off58_0 off58_1 off58_2 off61_0 off61_1 off61_2 off83_0 off83_1 off83_2 off83_3 off83_4 off85_0 off85_1 off85_2 places24 und3 und30 und5 und9 zero24 zrow24 zero3 zrow3 zero48 zrow48 zero5 zrow5 zero61 zrow61 zero83 zrow83 zero85 zrow85 zero9 zrow9
end Go.VS
namespace Go.VS
open Go Go.VS Go.Proofs Go.Proofs.Tryd Go.RowKit
set_option linter.unusedVariables false

theorem hinv0 (W : World) (hG : GW W) : HInv cx W (fun b => b < W.heap.size) (fun _ => .none) where
  disj := fun g h b h1 => by simp [TI.foot] at h1
  nophi := fun g b h1 => by simp [TI.foot] at h1
  lt := fun g b h1 => by simp [TI.foot] at h1
  phi := fun b h => h
  ok := fun g => .none
  novar := fun g h => rfl
theorem law_calls {n : FuncId} {args : List AV} {vs : Array Value} {b : Bool} (h : Okp cx n args (fun r o => r = .one (.d (.bool b)))) (W : World) (hG : GW W) (hs : vs.size = args.length)
    (hv : ∀ (i : Nat) v a, vs[i]? = some v → args[i]? = some a → RA cx W (fun b => b < W.heap.size) (fun _ => .none) v a) : Calls prog n vs W fun e w' => e = .returned (.bool b) ∧ Below W.heap.size W w' := by
  refine (h W _ _ vs hG (hinv0 W hG) hs hv).mono ?_
  rintro e w' ⟨v, r, o, Φ', H', rfl, rfl, hi, hG', hr, ho, fr⟩
  have : v = .bool b := by
    cases hr with
    | one _ _ hl => cases hl with | d _ _ hc => cases hc; rfl
  subst this
  exact ⟨rfl, ⟨fr.os, fr.tape, fr.output, fr.size, fun k hk => fr.block k hk (fun g hg => by simp [TI.foot] at hg)⟩⟩
theorem okF_calls {n : FuncId} {F : FS} {args : List AV} {R : AV → List AV → Prop} (h : OkF cx n F) (hp : F.post args = some R) : Okp cx n args R := h.2 args R hp
end Go.VS
