/- For the law WordsCells. -/
import Derived.Shelf.Strings.Builder1
import Derived.Shelf.Strings.Builder2
import Derived.Shelf.Small.Utf8
import Derived.Shelf.Small.Strs
import Derived.Shelf.Small.Wraps
import Derived.Shelf.Strings.BuilderF
import Derived.Shelf.Strings.BuilderK
import Derived.Shelf.Strconv.Itoa0
import Derived.Shelf.Strconv.Itoa1
import Derived.Shelf.LaysM
import Derived.Shelf.Strconv.Itoa2
import Derived.Shelf.Strconv.Itoa3
import Derived.Shelf.Strconv.Itoa4
import Derived.Shelf.Strconv.ParseIntEmpty
import Derived.Shelf.Strconv.Clone
import Derived.Shelf.Strconv.SyntaxError
import Derived.Shelf.LaysC
import Derived.Shelf.Strconv.ToError
import Derived.Shelf.Strconv.Lower
import Derived.Shelf.Strconv.ParseUint10
import Derived.Shelf.Strconv.ParseUint10Empty
import Derived.Shelf.Strconv.ParseUint10Any
import Derived.Shelf.Strconv.ParseInt10
import Derived.Shelf.Strconv.RangeError
import Derived.Shelf.Strconv.ToErrorRange
import Derived.Shelf.Strconv.ParseUintEmpty
import Derived.Shelf.Strconv.ParseUint10b64
import Derived.Shelf.Strconv.ParseUint10b32
import Derived.Shelf.Strconv.ParseUint10b16
import Derived.Shelf.Strconv.ParseUint10b8
import Derived.Shelf.Strconv.ParseUint10At
import Derived.Shelf.Strconv.ParseInt10At64
import Derived.Shelf.Strconv.ParseInt10At32
import Derived.Shelf.Strconv.ParseInt10At16
import Derived.Shelf.Strconv.ParseInt10At8
import Derived.Shelf.Strconv.ParseInt10All
import Derived.Shelf.Strconv.ParseIntPublic10
import Derived.Shelf.Strconv.ErrVarParseInt
import Derived.Shelf.Strings.Search1
import Derived.Shelf.Strings.Search2
import Derived.Shelf.Strings.Search3
import Derived.Shelf.Strings.Cut
import Derived.Shelf.Strings.Shaped
import Derived.Shelf.Strings.Prefix
import Derived.Shelf.Strings.Runes
import Derived.Shelf.Strings.AsciiSet
import Derived.Shelf.Unicode.DecodeSlow
import Derived.Test.YtcpimjekllkbkaaGreatDoorProg
import Derived.Lib.Strings
import Derived.Lib.Slices
import Derived.Lib.Walk
import Derived.Lib.Builder
import Derived.Lib.AppendStr
import Derived.Lib.UnsafeStr
import Derived.WalkKit
import Derived.OwnWalk
import Derived.KernelRfl
import Derived.Laws.Externs
import Derived.Laws.IdiomCopy
import Derived.Laws.BitsLemmas
import Derived.Calls
import Derived.Orders
import Derived.Below
import Derived.Deep.MidRow
import Derived.Laws.AppendOwn
import Derived.WalkSmall
import Derived.Lib.LaidTab
import Derived.Lib.ItoaNum
import Derived.Sort.Grow
import Derived.Laws.Small
import Derived.Laws.Pointers
import Derived.Lib.SliceRun
import Derived.Laws.StructEq
import Derived.Laws.Slices
import Derived.Laws.Strings
import Derived.Maps.AppendAt
import Derived.Great.BuildSlice
import Derived.Laws.CopyRow
import Derived.Laws.MakeOwn
import Derived.Laws.Tables
import Derived.Great.FillDense
import Derived.Laws.BytesArg
set_option linter.unusedVariables false
set_option linter.unusedSimpArgs false
set_option linter.unusedSectionVars false
/- The library's contracts that this claim uses, laid at this translation (by the shelf's own tools, plain words; cut to what is used). -/
namespace Go.Proofs
open Go.Shelf
def Tryz.lays169_ren : Go.Shelf.Ren := ⟨fun | 169 => 30 | n => n, fun | 70 => 64 | 9 => 9 | 0 => 0 | 72 => 67 | 37 => 65 | 127 => 94 | 3 => 3 | 5 => 5 | n => n, fun | n => n⟩
theorem Tryz.lays169 : Go.Proofs.Lays.n169 Tryz.prog Tryz.lays169_ren := {
  mixed := by kernel_rfl
  f169 := Tryz.func30.trans (congrArg some (by kernel_rfl))
  t0 := Tryz.underlying0
  a0 := Tryz.isAgg0
  z0 := Tryz.sizeOf0
  v0 := Tryz.zeroValue0
  t3 := Tryz.underlying3
  a3 := Tryz.isAgg3
  z3 := Tryz.sizeOf3
  v3 := Tryz.zeroValue3
  t9 := Tryz.underlying9
  a9 := Tryz.isAgg9
  z9 := Tryz.sizeOf9
  v9 := Tryz.zeroValue9
  t37 := Tryz.underlying65
  a37 := Tryz.isAgg65
  z37 := Tryz.sizeOf65
  v37 := Tryz.zeroValue65
  t70 := Tryz.underlying64
  a70 := Tryz.isAgg64
  z70 := Tryz.sizeOf64
  v70 := Tryz.zeroValue64
  t72 := Tryz.underlying67
  a72 := Tryz.isAgg67
  z72 := Tryz.sizeOf67
  v72 := Tryz.zeroValue67
  t127 := Tryz.underlying94
  a127 := Tryz.isAgg94
  z127 := Tryz.sizeOf94
  v127 := Tryz.zeroValue94 }
theorem Tryz.Builder_Extra_169 : Builder.Extra Tryz.prog Tryz.lays169_ren := {
  sizeBuilder := by kernel_rfl
  liesBuilder := by kernel_rfl
  t5 := Tryz.underlying5
  a5 := Tryz.isAgg5
  z5 := Tryz.sizeOf5
  v5 := Tryz.zeroValue5
  infoByte := by kernel_rfl
  cellsByte := by kernel_rfl
  sizeByte := by kernel_rfl
  neB5 := by decide }
open Go.RowKit in
theorem Tryz.Builder_String_any (B b : Nat) (l : List UInt8) (w : World) (h : Lib.IsBuilder 67 5 B b (Lib.byteCells l) w) (hBw : B ≤ w.heap.size) :
    Calls Tryz.prog 30 #[.pointer (some ⟨b, 0, none⟩)] w fun e w' => e = .returned (.string ⟨l.toArray⟩) ∧ Below B w w' := Any.Builder_String_any Tryz.lays169 Tryz.Builder_Extra_169 B b l w h hBw
def Tryz.laysM173_ren : Go.Shelf.Ren := ⟨fun | 173 => 26 | 246 => 53 | 283 => 67 | 284 => 68 | 285 => 69 | 286 => 70 | 129 => 87 | 317 => 86 | 318 => 88 | 319 => 89 | 320 => 90 | 337 => 101 | 338 => 102 | n => n, fun | 2 => 2 | 3 => 3 | 9 => 9 | 4 => 4 | 171 => 109 | 0 => 0 | 53 => 96 | 37 => 65 | 5 => 5 | 173 => 112 | 212 => 129 | 51 => 130 | 20 => 20 | 213 => 131 | 46 => 93 | 232 => 149 | 233 => 150 | n => n, fun | 17 => 0 | 18 => 4 | 19 => 5 | n => n⟩
theorem Tryz.laysM173 : Go.Proofs.LaysM.n173 Tryz.prog Tryz.laysM173_ren := {
  mixed := by kernel_rfl
  f129 := Tryz.func87.trans (congrArg some (by kernel_rfl))
  f173 := Tryz.func26.trans (congrArg some (by kernel_rfl))
  f246 := Tryz.func53.trans (congrArg some (by kernel_rfl))
  f283 := Tryz.func67.trans (congrArg some (by kernel_rfl))
  f284 := Tryz.func68.trans (congrArg some (by kernel_rfl))
  f285 := Tryz.func69.trans (congrArg some (by kernel_rfl))
  f286 := Tryz.func70.trans (congrArg some (by kernel_rfl))
  f317 := Tryz.func86.trans (congrArg some (by kernel_rfl))
  f318 := Tryz.func88.trans (congrArg some (by kernel_rfl))
  f319 := Tryz.func89.trans (congrArg some (by kernel_rfl))
  f320 := Tryz.func90.trans (congrArg some (by kernel_rfl))
  f337 := Tryz.func101.trans (congrArg some (by kernel_rfl))
  f338 := Tryz.func102.trans (congrArg some (by kernel_rfl))
  t0 := Tryz.underlying0
  a0 := Tryz.isAgg0
  z0 := Tryz.sizeOf0
  v0 := Tryz.zeroValue0
  t2 := Tryz.underlying2
  a2 := Tryz.isAgg2
  z2 := Tryz.sizeOf2
  v2 := Tryz.zeroValue2
  t3 := Tryz.underlying3
  a3 := Tryz.isAgg3
  z3 := Tryz.sizeOf3
  v3 := Tryz.zeroValue3
  t4 := Tryz.underlying4
  a4 := Tryz.isAgg4
  z4 := Tryz.sizeOf4
  v4 := Tryz.zeroValue4
  t5 := Tryz.underlying5
  a5 := Tryz.isAgg5
  z5 := Tryz.sizeOf5
  v5 := Tryz.zeroValue5
  t9 := Tryz.underlying9
  a9 := Tryz.isAgg9
  z9 := Tryz.sizeOf9
  v9 := Tryz.zeroValue9
  t20 := Tryz.underlying20
  a20 := Tryz.isAgg20
  z20 := Tryz.sizeOf20
  v20 := Tryz.zeroValue20
  t37 := Tryz.underlying65
  a37 := Tryz.isAgg65
  z37 := Tryz.sizeOf65
  v37 := Tryz.zeroValue65
  t46 := Tryz.underlying93
  a46 := Tryz.isAgg93
  z46 := Tryz.sizeOf93
  v46 := Tryz.zeroValue93
  t51 := Tryz.underlying130
  a51 := Tryz.isAgg130
  z51 := Tryz.sizeOf130
  v51 := Tryz.zeroValue130
  t53 := Tryz.underlying96
  a53 := Tryz.isAgg96
  z53 := Tryz.sizeOf96
  v53 := Tryz.zeroValue96
  t171 := Tryz.underlying109
  a171 := Tryz.isAgg109
  z171 := Tryz.sizeOf109
  v171 := Tryz.zeroValue109
  t173 := Tryz.underlying112
  a173 := Tryz.isAgg112
  z173 := Tryz.sizeOf112
  v173 := Tryz.zeroValue112
  t212 := Tryz.underlying129
  a212 := Tryz.isAgg129
  z212 := Tryz.sizeOf129
  v212 := Tryz.zeroValue129
  t213 := Tryz.underlying131
  a213 := Tryz.isAgg131
  z213 := Tryz.sizeOf131
  t232 := Tryz.underlying149
  a232 := Tryz.isAgg149
  z232 := Tryz.sizeOf149
  v232 := Tryz.zeroValue149
  t233 := Tryz.underlying150
  a233 := Tryz.isAgg150
  z233 := Tryz.sizeOf150
  v233 := Tryz.zeroValue150
  g17 := by kernel_rfl
  g18 := by kernel_rfl
  g19 := by kernel_rfl
  i0 := by kernel_rfl
  i2 := by kernel_rfl
  i3 := by kernel_rfl
  i4 := by kernel_rfl
  i5 := by kernel_rfl
  i9 := by kernel_rfl
  i20 := by kernel_rfl
  i37 := by kernel_rfl
  i46 := by kernel_rfl
  i51 := by kernel_rfl
  i53 := by kernel_rfl
  i171 := by kernel_rfl
  i173 := by kernel_rfl
  i212 := by kernel_rfl
  i232 := by kernel_rfl
  i233 := by kernel_rfl
  m17 := by kernel_rfl
  m18 := by kernel_rfl
  m19 := by kernel_rfl }
open Go.RowKit Go.Sort Go.Lib in
theorem Tryz.strconv_FormatInt_10 (n : Int) (h0 : -9223372036854775808 ≤ n) (h1 : n ≤ 9223372036854775807) (w : World) (htab : Lib.TabIs Tryz.prog w "internal/strconv.uint64pow10" .u64 Lib.pow10Tab) :
    Calls Tryz.prog 26 #[.int .i64 n, .int .i64 10] w fun e w' => e = .returned (.string ⟨(Lib.itoa n).toArray⟩) ∧ ∃ k os, w' = grow (w.drewN k) os := Any.strconv_FormatInt_10 Tryz.laysM173 n h0 h1 w htab
def Tryz.laysC174_ren : Go.Shelf.Ren := ⟨fun | 174 => 59 | 247 => 74 | 245 => 75 | 287 => 91 | 279 => 92 | 280 => 93 | 281 => 94 | 282 => 95 | 321 => 103 | 322 => 104 | 316 => 105 | 171 => 107 | 205 => 106 | 243 => 114 | 246 => 53 | 283 => 67 | 284 => 68 | 285 => 69 | 286 => 70 | 129 => 87 | 317 => 86 | 318 => 88 | 319 => 89 | 320 => 90 | 337 => 101 | 338 => 102 | n => n, fun | 9 => 9 | 3 => 3 | 2 => 2 | 75 => 70 | 85 => 97 | 4 => 4 | 167 => 134 | 5 => 5 | 53 => 96 | 175 => 135 | 46 => 93 | 168 => 137 | 37 => 65 | 0 => 0 | 210 => 146 | 21 => 21 | 127 => 94 | 145 => 153 | 143 => 151 | 171 => 109 | 173 => 112 | 212 => 129 | 51 => 130 | 20 => 20 | 213 => 131 | 232 => 149 | 233 => 150 | 80 => 73 | n => n, fun | 15 => 2 | 16 => 3 | 17 => 0 | 18 => 4 | 19 => 5 | n => n⟩
theorem Tryz.laysC174 : Go.Proofs.LaysC.n174 Tryz.prog Tryz.laysC174_ren := {
  mixed := by kernel_rfl
  f129 := Tryz.func87.trans (congrArg some (by kernel_rfl))
  f171 := Tryz.func107.trans (congrArg some (by kernel_rfl))
  f174 := Tryz.func59.trans (congrArg some (by kernel_rfl))
  f205 := Tryz.func106.trans (congrArg some (by kernel_rfl))
  f243 := Tryz.func114.trans (congrArg some (by kernel_rfl))
  f245 := Tryz.func75.trans (congrArg some (by kernel_rfl))
  f246 := Tryz.func53.trans (congrArg some (by kernel_rfl))
  f247 := Tryz.func74.trans (congrArg some (by kernel_rfl))
  f279 := Tryz.func92.trans (congrArg some (by kernel_rfl))
  f280 := Tryz.func93.trans (congrArg some (by kernel_rfl))
  f281 := Tryz.func94.trans (congrArg some (by kernel_rfl))
  f282 := Tryz.func95.trans (congrArg some (by kernel_rfl))
  f283 := Tryz.func67.trans (congrArg some (by kernel_rfl))
  f284 := Tryz.func68.trans (congrArg some (by kernel_rfl))
  f285 := Tryz.func69.trans (congrArg some (by kernel_rfl))
  f286 := Tryz.func70.trans (congrArg some (by kernel_rfl))
  f287 := Tryz.func91.trans (congrArg some (by kernel_rfl))
  f316 := Tryz.func105.trans (congrArg some (by kernel_rfl))
  f317 := Tryz.func86.trans (congrArg some (by kernel_rfl))
  f318 := Tryz.func88.trans (congrArg some (by kernel_rfl))
  f319 := Tryz.func89.trans (congrArg some (by kernel_rfl))
  f320 := Tryz.func90.trans (congrArg some (by kernel_rfl))
  f321 := Tryz.func103.trans (congrArg some (by kernel_rfl))
  f322 := Tryz.func104.trans (congrArg some (by kernel_rfl))
  f337 := Tryz.func101.trans (congrArg some (by kernel_rfl))
  f338 := Tryz.func102.trans (congrArg some (by kernel_rfl))
  t0 := Tryz.underlying0
  a0 := Tryz.isAgg0
  z0 := Tryz.sizeOf0
  v0 := Tryz.zeroValue0
  t2 := Tryz.underlying2
  a2 := Tryz.isAgg2
  z2 := Tryz.sizeOf2
  v2 := Tryz.zeroValue2
  t3 := Tryz.underlying3
  a3 := Tryz.isAgg3
  z3 := Tryz.sizeOf3
  v3 := Tryz.zeroValue3
  t4 := Tryz.underlying4
  a4 := Tryz.isAgg4
  z4 := Tryz.sizeOf4
  v4 := Tryz.zeroValue4
  t5 := Tryz.underlying5
  a5 := Tryz.isAgg5
  z5 := Tryz.sizeOf5
  v5 := Tryz.zeroValue5
  t9 := Tryz.underlying9
  a9 := Tryz.isAgg9
  z9 := Tryz.sizeOf9
  v9 := Tryz.zeroValue9
  t20 := Tryz.underlying20
  a20 := Tryz.isAgg20
  z20 := Tryz.sizeOf20
  v20 := Tryz.zeroValue20
  t21 := Tryz.underlying21
  a21 := Tryz.isAgg21
  z21 := Tryz.sizeOf21
  v21 := Tryz.zeroValue21
  t37 := Tryz.underlying65
  a37 := Tryz.isAgg65
  z37 := Tryz.sizeOf65
  v37 := Tryz.zeroValue65
  t46 := Tryz.underlying93
  a46 := Tryz.isAgg93
  z46 := Tryz.sizeOf93
  v46 := Tryz.zeroValue93
  t51 := Tryz.underlying130
  a51 := Tryz.isAgg130
  z51 := Tryz.sizeOf130
  v51 := Tryz.zeroValue130
  t53 := Tryz.underlying96
  a53 := Tryz.isAgg96
  z53 := Tryz.sizeOf96
  v53 := Tryz.zeroValue96
  t75 := Tryz.underlying70
  a75 := Tryz.isAgg70
  z75 := Tryz.sizeOf70
  v75 := Tryz.zeroValue70
  t85 := Tryz.underlying97
  a85 := Tryz.isAgg97
  z85 := Tryz.sizeOf97
  v85 := Tryz.zeroValue97
  t127 := Tryz.underlying94
  a127 := Tryz.isAgg94
  z127 := Tryz.sizeOf94
  v127 := Tryz.zeroValue94
  t143 := Tryz.underlying151
  a143 := Tryz.isAgg151
  z143 := Tryz.sizeOf151
  v143 := Tryz.zeroValue151
  t145 := Tryz.underlying153
  a145 := Tryz.isAgg153
  z145 := Tryz.sizeOf153
  v145 := Tryz.zeroValue153
  t167 := Tryz.underlying134
  a167 := Tryz.isAgg134
  z167 := Tryz.sizeOf134
  v167 := Tryz.zeroValue134
  t168 := Tryz.underlying137
  a168 := Tryz.isAgg137
  z168 := Tryz.sizeOf137
  v168 := Tryz.zeroValue137
  t171 := Tryz.underlying109
  a171 := Tryz.isAgg109
  z171 := Tryz.sizeOf109
  v171 := Tryz.zeroValue109
  t173 := Tryz.underlying112
  a173 := Tryz.isAgg112
  z173 := Tryz.sizeOf112
  v173 := Tryz.zeroValue112
  t175 := Tryz.underlying135
  a175 := Tryz.isAgg135
  z175 := Tryz.sizeOf135
  v175 := Tryz.zeroValue135
  t210 := Tryz.underlying146
  a210 := Tryz.isAgg146
  z210 := Tryz.sizeOf146
  v210 := Tryz.zeroValue146
  t212 := Tryz.underlying129
  a212 := Tryz.isAgg129
  z212 := Tryz.sizeOf129
  v212 := Tryz.zeroValue129
  t213 := Tryz.underlying131
  a213 := Tryz.isAgg131
  z213 := Tryz.sizeOf131
  t232 := Tryz.underlying149
  a232 := Tryz.isAgg149
  z232 := Tryz.sizeOf149
  v232 := Tryz.zeroValue149
  t233 := Tryz.underlying150
  a233 := Tryz.isAgg150
  z233 := Tryz.sizeOf150
  v233 := Tryz.zeroValue150
  g15 := by kernel_rfl
  g16 := by kernel_rfl
  g17 := by kernel_rfl
  g18 := by kernel_rfl
  g19 := by kernel_rfl
  t80 := Tryz.underlying73
  a80 := Tryz.isAgg73
  z80 := Tryz.sizeOf73
  v80 := Tryz.zeroValue73
  i0 := by kernel_rfl
  i2 := by kernel_rfl
  i3 := by kernel_rfl
  i4 := by kernel_rfl
  i5 := by kernel_rfl
  i9 := by kernel_rfl
  i20 := by kernel_rfl
  i21 := by kernel_rfl
  i37 := by kernel_rfl
  i46 := by kernel_rfl
  i51 := by kernel_rfl
  i53 := by kernel_rfl
  i75 := by kernel_rfl
  i80 := by kernel_rfl
  i85 := by kernel_rfl
  i127 := by kernel_rfl
  i143 := by kernel_rfl
  i145 := by kernel_rfl
  i167 := by kernel_rfl
  i168 := by kernel_rfl
  i171 := by kernel_rfl
  i173 := by kernel_rfl
  i175 := by kernel_rfl
  i210 := by kernel_rfl
  i212 := by kernel_rfl
  i232 := by kernel_rfl
  i233 := by kernel_rfl
  m15 := by kernel_rfl
  m16 := by kernel_rfl
  m17 := by kernel_rfl
  m18 := by kernel_rfl
  m19 := by kernel_rfl
  c0 := by kernel_rfl
  c2 := by kernel_rfl
  c3 := by kernel_rfl
  c4 := by kernel_rfl
  c5 := by kernel_rfl
  c9 := by kernel_rfl
  c20 := by kernel_rfl
  c21 := by kernel_rfl
  c37 := by kernel_rfl
  c46 := by kernel_rfl
  c51 := by kernel_rfl
  c53 := by kernel_rfl
  c75 := by kernel_rfl
  c80 := by kernel_rfl
  c85 := by kernel_rfl
  c127 := by kernel_rfl
  c143 := by kernel_rfl
  c145 := by kernel_rfl
  c167 := by kernel_rfl
  c168 := by kernel_rfl
  c171 := by kernel_rfl
  c173 := by kernel_rfl
  c175 := by kernel_rfl
  c210 := by kernel_rfl
  c212 := by kernel_rfl
  c213 := by kernel_rfl
  c232 := by kernel_rfl
  c233 := by kernel_rfl }
open Go.RowKit in
theorem Tryz.strconv_ParseInt_10_at64_ok (s : ByteArray) (hmax : s.size ≤ 9223372036854775806) (v : Int) (h : Lib.parseIntB 64 s.data.toList = .ok v) (w : World) :
    Calls Tryz.prog 59 #[.string s, .int .i64 10, .int .i64 64] w fun e w' => e = .returned (.tuple #[.int .i64 v, .nilIface]) ∧ (w' = w ∨ ∃ t, w' = Lib.bytesWorld w 5 t) := Any.strconv_ParseInt_10_at64_ok Tryz.laysC174 s hmax v h w
open Go.RowKit in
theorem Tryz.strconv_ParseInt_10_at64_syntax_var (s : ByteArray) (hlim : s.size ≤ 281474976710656) (h1 : ∀ v, Lib.parseIntB 64 s.data.toList ≠ .ok v) (h2 : Lib.parseIntB 64 s.data.toList ≠ .range) (tp : TypeId) (p : Value) (w : World) (hvar : w.var? Tryz.prog "strconv.ErrSyntax" = some #[.iface tp p]) :
    Calls Tryz.prog 59 #[.string s, .int .i64 10, .int .i64 64] w fun e w' => ∃ N, e = .returned (.tuple #[.int .i64 (0), .iface 137 (.pointer (some ⟨N, 0, none⟩))]) ∧ w.heap.size ≤ N ∧ w'.heap[N]? = some (.cells #[.string ⟨#[80, 97, 114, 115, 101, 73, 110, 116]⟩, .string s, .iface tp p] 146 (0, 0)) ∧ Below w.heap.size w w' := Any.strconv_ParseInt_10_at64_syntax_var Tryz.laysC174 s hlim (by generalize Lib.parseIntB 64 s.data.toList = b at *; rcases b with v | _ | _; exact absurd rfl (h1 v); rfl; exact absurd rfl h2) tp p w hvar
open Go.RowKit in
theorem Tryz.strconv_ParseInt_10_at64_range_var (s : ByteArray) (hlim : s.size ≤ 281474976710656) (h : Lib.parseIntB 64 s.data.toList = .range) (tp : TypeId) (p : Value) (w : World) (hvar : w.var? Tryz.prog "strconv.ErrRange" = some #[.iface tp p]) :
    Calls Tryz.prog 59 #[.string s, .int .i64 10, .int .i64 64] w fun e w' => ∃ N, e = .returned (.tuple #[.int .i64 (Lib.intSat 64 s.data.toList), .iface 137 (.pointer (some ⟨N, 0, none⟩))]) ∧ w.heap.size ≤ N ∧ w'.heap[N]? = some (.cells #[.string ⟨#[80, 97, 114, 115, 101, 73, 110, 116]⟩, .string s, .iface tp p] 146 (0, 0)) ∧ Below w.heap.size w w' := Any.strconv_ParseInt_10_at64_range_var Tryz.laysC174 s hlim h tp p w hvar
end Go.Proofs
/- strings.Builder's copyCheck, WriteByte and WriteString at this translation, whose copyCheck bears no panic's text: contracts turned from the shelf's, walked anew over this program. -/
namespace Go.Proofs.YtcpimjekllkbkaaGreatDoor
open Go.RowKit

theorem sizeBuilder : (Tryz.prog.info? 67).map (·.size) = some 2 := by kernel_rfl
theorem liesBuilder : liesAt Tryz.prog Tryz.prog.depth 67 (2 / Tryz.prog.cellsOf 67) 0 67 1 = true := by kernel_rfl
theorem infoByte : (Tryz.prog.info? 5).map (fun i => (i.zero, i.size, i.bytes)) = some (some (.int .u8 0), 1, 1) := by kernel_rfl

set_option maxHeartbeats 1000000 in
set_option maxRecDepth 100000 in
theorem copyCheck_used (b : Nat) (w : World) (h0 : w.cell? ⟨b, 0, none⟩ = some (.pointer (some ⟨b, 0, none⟩))) :
    Calls Tryz.prog 55 #[.pointer (some ⟨b, 0, none⟩)] w fun e w' => e = .returned (.tuple #[]) ∧ w' = w := by
  obtain ⟨j, hj, _⟩ := Option.map_eq_some_iff.1 sizeBuilder
  go_enter Tryz.func55, Tryz.ntmps55
  go_wp2
  rw [Lib.run_neq_ptr_same w _ Tryz.underlying64 hj]
  go_wp2
  go_end0
  exact ⟨rfl, rfl⟩

set_option maxHeartbeats 1000000 in
set_option maxRecDepth 100000 in
theorem copyCheck_fresh (b : Nat) (w : World) (h0 : w.cell? ⟨b, 0, none⟩ = some (.pointer none)) (hsh : w.shape? b = some (67, 2)) (hfz : w.frozen? ⟨b, 0, none⟩ = false) :
    Calls Tryz.prog 55 #[.pointer (some ⟨b, 0, none⟩)] w fun e w' => e = .returned (.tuple #[]) ∧ w' = w.setCell ⟨b, 0, none⟩ (.pointer (some ⟨b, 0, none⟩)) := by
  obtain ⟨j, hj, hjs⟩ := Option.map_eq_some_iff.1 sizeBuilder
  go_enter Tryz.func55, Tryz.ntmps55
  go_wp2
  rw [Lib.run_to_unsafe w ⟨b, 0, none⟩ Tryz.underlying64 Tryz.underlying114 hj (by rw [hjs]; decide) hsh (Nat.zero_lt_succ 1)]
  simp only [Result.andThen]
  rw [Oper.upon_value]
  go_wp2
  rw [run_callFunc_extern Tryz.func71 (by kernel_rfl) (by kernel_rfl) (by kernel_rfl) (e := Extern.AbiNoEscape.same) (by kernel_rfl)]
  rw [Lib.run_noEscape]
  simp only [Result.andThen]
  rw [Oper.upon_value]
  go_wp2
  rw [Lib.run_from_unsafe w ⟨b, 0, none⟩ Tryz.underlying114 Tryz.underlying64 hj hsh liesBuilder]
  simp only [Result.andThen]
  rw [Oper.upon_value]
  go_wp2
  go_end0
  exact ⟨rfl, rfl⟩

theorem copyCheck (B b : Nat) (bs : List Value) (w : World) (h : Lib.IsBuilder 67 5 B b bs w) :
    Calls Tryz.prog 55 #[.pointer (some ⟨b, 0, none⟩)] w fun e w' => e = .returned (.tuple #[]) ∧ (Lib.BuilderAt 67 5 B b (.pointer (some ⟨b, 0, none⟩)) bs w' ∧ Below B w w') := by
  rcases h with h | h
  · refine (copyCheck_fresh b w h.cell0 h.shape h.frozen0).mono ?_
    rintro e w' ⟨rfl, rfl⟩
    exact ⟨rfl, h.used _, (Below.refl B w).setCell (p := ⟨b, 0, none⟩) h.1 _⟩
  · refine (copyCheck_used b w h.cell0).mono ?_
    rintro e w' ⟨rfl, rfl⟩
    exact ⟨rfl, h, Below.refl B _⟩

set_option maxHeartbeats 2000000 in
set_option maxRecDepth 100000 in
theorem writeByte (B b : Nat) (bs : List Value) (c : Int) (w : World) (h : Lib.IsBuilder 67 5 B b bs w) (hlen : bs.length + 1 ≤ 140737488355328) (hBw : B ≤ w.heap.size) :
    Calls Tryz.prog 54 #[.pointer (some ⟨b, 0, none⟩), .int .u8 c] w fun e w' => e = .returned .nilIface ∧ (Lib.BuilderAt 67 5 B b (.pointer (some ⟨b, 0, none⟩)) (bs ++ [.int .u8 c]) w' ∧ Below B w w') := by
  obtain ⟨i0, hi, hz0, hz1, hz2⟩ := info_parts infoByte
  go_enter Tryz.func54, Tryz.ntmps54
  go_wp2_with (go_at_call 55; refine (copyCheck B b bs _ h).mono ?_)
  rintro e w1 ⟨rfl, h1, hb1⟩
  obtain ⟨hB, v, hbk, hown, hne⟩ := h1
  have c0 : w1.cell? ⟨b, 0, none⟩ = some (.pointer (some ⟨b, 0, none⟩)) := by rw [Lib.cell_of_heap hbk]; rfl
  have c1 : w1.cell? ⟨b, 1, none⟩ = some v := by rw [Lib.cell_of_heap hbk]; rfl
  go_wp2_with (at_builtin; refine wpList_append_own _ rfl _ _ 65 rfl B 5 i0 (.int .u8 0) 1 1 Tryz.underlying65 hi hz0 hz1 hz2 rfl (by decide) _ _ _ rfl (hown.alloc _) ⟨w1.heap.size, 0, none⟩ 1 1 [.int .u8 c] rfl rfl ?c1 ?c2 ?c3 ?c4 ?c5 ?_)
  case c1 =>
    intro j u hj
    match j, hj with
    | 0, hj => simp at hj; subst hj; simp [Addr.add]
  case c2 => intro u hu; simp at hu; subst hu; rfl
  case c3 => unfold maxLen; omega
  case c4 => omega
  case c5 => have := hb1.size; simp; omega
  intro v' w2 hown' hgrow _
  have hlt : b < w1.heap.size := by
    rcases Nat.lt_or_ge b w1.heap.size with h' | h'
    · exact h'
    · simp [Array.getElem?_eq_none h'] at hbk
  have hb2 : w2.heap[b]? = some (.cells #[.pointer (some ⟨b, 0, none⟩), v] 67 (0, 0)) := by
    rw [hgrow.block b (by simp; omega) (fun e => hne e.symm), Lib.alloc_old w1 _ b hlt]
    exact hbk
  have d0 : w2.cell? ⟨b, 0, none⟩ = some (.pointer (some ⟨b, 0, none⟩)) := by rw [Lib.cell_of_heap hb2]; rfl
  have d1 : w2.cell? ⟨b, 1, none⟩ = some v := by rw [Lib.cell_of_heap hb2]; rfl
  have f1 : w2.frozen? ⟨b, 1, none⟩ = false := Lib.frozen_of_heap hb2 1
  obtain ⟨g, cap, rfl⟩ : ∃ g cap, v' = .slice (some ⟨g, 0, none⟩) (bs.length + 1) cap := by
    rcases hown'.2 with ⟨_, h0⟩ | ⟨g, cap, cur, hv, _⟩
    · omega
    · exact ⟨g, cap, hv⟩
  go_wp2
  go_ret
  refine ⟨rfl, ?_, ?_⟩
  · exact Lib.BuilderAt.put (T := 67) (e := 5) hB hb2 (bs' := bs ++ [.int .u8 c]) (by simpa using hown') (by decide)
  · exact ((hb1.alloc (by have := hb1.size; omega) _).grown hgrow (by have := hb1.size; simp; omega) (fun k hk => (hown.lt k hk).1)).setCell (p := ⟨b, 1, none⟩) hB _

set_option maxHeartbeats 2000000 in
set_option maxRecDepth 100000 in
theorem writeString (B b : Nat) (bs : List Value) (s : ByteArray) (w : World) (h : Lib.IsBuilder 67 5 B b bs w) (hlen : bs.length + s.size ≤ 140737488355328) (hBw : B ≤ w.heap.size) :
    Calls Tryz.prog 29 #[.pointer (some ⟨b, 0, none⟩), .string s] w fun e w' => e = .returned (.tuple #[.int .i64 s.size, .nilIface]) ∧ (Lib.BuilderAt 67 5 B b (.pointer (some ⟨b, 0, none⟩)) (bs ++ Lib.strCells s) w' ∧ Below B w w') := by
  obtain ⟨i0, hi, hz0, hz1, hz2⟩ := info_parts infoByte
  go_enter Tryz.func29, Tryz.ntmps29
  go_wp2_with (go_at_call 55; refine (copyCheck B b bs _ h).mono ?_)
  rintro e w1 ⟨rfl, h1, hb1⟩
  obtain ⟨hB, v, hbk, hown, hne⟩ := h1
  have c0 : w1.cell? ⟨b, 0, none⟩ = some (.pointer (some ⟨b, 0, none⟩)) := by rw [Lib.cell_of_heap hbk]; rfl
  have c1 : w1.cell? ⟨b, 1, none⟩ = some v := by rw [Lib.cell_of_heap hbk]; rfl
  go_wp2_with (at_builtin; refine Lib.wpList_append_own_string _ rfl _ _ 65 9 rfl B 5 i0 Tryz.underlying65 Tryz.underlying9 hi hz0 hz1 hz2 _ _ _ rfl hown s rfl ?c3 ?c4 ?c5 ?_)
  case c3 => unfold maxLen; omega
  case c4 => omega
  case c5 => have := hb1.size; omega
  intro v' w2 hown' hgrow _
  have hlt : b < w1.heap.size := by
    rcases Nat.lt_or_ge b w1.heap.size with h' | h'
    · exact h'
    · simp [Array.getElem?_eq_none h'] at hbk
  have hb2 : w2.heap[b]? = some (.cells #[.pointer (some ⟨b, 0, none⟩), v] 67 (0, 0)) := by
    rw [hgrow.block b hlt (fun e => hne e.symm)]
    exact hbk
  have d0 : w2.cell? ⟨b, 0, none⟩ = some (.pointer (some ⟨b, 0, none⟩)) := by rw [Lib.cell_of_heap hb2]; rfl
  have d1 : w2.cell? ⟨b, 1, none⟩ = some v := by rw [Lib.cell_of_heap hb2]; rfl
  have f1 : w2.frozen? ⟨b, 1, none⟩ = false := Lib.frozen_of_heap hb2 1
  obtain ⟨ao, n', cap, rfl⟩ : ∃ ao n' cap, v' = .slice ao n' cap := by
    rcases hown'.2 with ⟨hv, _⟩ | ⟨g, cap, cur, hv, _⟩
    · exact ⟨_, _, _, hv⟩
    · exact ⟨_, _, _, hv⟩
  go_wp2
  go_ret2
  refine ⟨rfl, ?_, ?_⟩
  · exact Lib.BuilderAt.put (T := 67) (e := 5) hB hb2 (bs' := bs ++ Lib.strCells s) (by simpa [Lib.strCells_length] using hown') (by decide)
  · exact (hb1.grown hgrow (by have := hb1.size; omega) (fun k hk => (hown.lt k hk).1)).setCell (p := ⟨b, 1, none⟩) hB _
end Go.Proofs.YtcpimjekllkbkaaGreatDoor
namespace Go.Proofs.YtcpimjekllkbkaaGreatDoor.E
open Go.RowKit
/-! # 1. Data: types of plain data, and how cells read as data -/
inductive Ty where
  | bool | int (k : IntKind) | str | sl (e : Ty) | pr (a b : Ty) | un
  deriving DecidableEq
@[reducible] def Ty.D : Ty → Type
  | .bool => Bool | .int _ => Int | .str => ByteArray | .sl e => List e.D | .pr a b => a.D × b.D | .un => Unit
@[reducible] def Ty.z : (t : Ty) → t.D
  | .bool => false | .int _ => (0 : Int) | .str => ByteArray.empty | .sl _ => [] | .pr a b => (a.z, b.z) | .un => ()
def Ty.sz : Ty → Nat
  | .bool | .int _ | .str | .sl _ => 1 | .pr a b => a.sz + b.sz | .un => 0
/-- a cell's content -/
inductive C where
  | b (x : Bool) | i (k : IntKind) (n : Int) | s (x : ByteArray) | ns | fz (t : Ty) (l : List t.D) | ow (h : Nat)
  | pt (h o : Nat) | pe (t : Ty) (x : t.D) (o : Nat) | po (h i sz o : Nat) | pm (h i o : Nat) | np | fn (f : Nat) (hs : List Nat) | nz (t : Ty) (l : List t.D) | mp (h : Nat) | mn | er (b : Bool) | iv (t : Nat) (x : Value) | un
/-- a variable's content: a cell, or several -/
inductive A where | c (x : C) | ag (l : List C)
/-- a temporary's: that, or a tuple -/
inductive T where | a (x : A) | tu (l : List A)
inductive Blk where
  | box (pn : Bool) (ty : Nat) (c : List C) | arr (ty : Nat) (t : Ty) (l : List t.D) | fzd (t : Ty) (l : List t.D) | mp (bx : Option Nat) (kt vt : Ty) (l : List (kt.D × vt.D)) | gone | slot (i : Nat)
def All2 {α β : Type} (R : α → β → Prop) : List α → List β → Prop
  | [], [] => True
  | x :: xs, y :: ys => R x y ∧ All2 R xs ys
  | _, _ => False
theorem All2.len {α β : Type} {R : α → β → Prop} : ∀ {xs : List α} {ys : List β}, All2 R xs ys → xs.length = ys.length
  | [], [], _ => rfl
  | _ :: _, _ :: _, h => by simp [All2.len h.2]
  | [], _ :: _, h => h.elim
  | _ :: _, [], h => h.elim
theorem All2.mono {α β : Type} {R R' : α → β → Prop} : ∀ {xs : List α} {ys : List β}, (∀ x y, x ∈ xs → y ∈ ys → R x y → R' x y) → All2 R xs ys → All2 R' xs ys
  | [], [], _, _ => trivial
  | x :: xs, y :: ys, f, h => ⟨f x y (by simp) (by simp) h.1, All2.mono (fun a b ha hb => f a b (by simp [ha]) (by simp [hb])) h.2⟩
  | [], _ :: _, _, h => h.elim
  | _ :: _, [], _, h => h.elim
theorem All2.get {α β : Type} {R : α → β → Prop} : ∀ {xs : List α} {ys : List β} {i : Nat} {y : β}, All2 R xs ys → ys[i]? = some y → ∃ x, xs[i]? = some x ∧ R x y
  | x :: xs, y :: ys, 0, z, h, e => by simp at e; subst e; exact ⟨x, rfl, h.1⟩
  | x :: xs, y :: ys, i + 1, z, h, e => by simpa using All2.get h.2 (by simpa using e)
  | [], [], i, z, h, e => by simp at e
  | [], _ :: _, _, _, h, _ => h.elim
  | _ :: _, [], _, _, h, _ => h.elim
theorem All2.getl {α β : Type} {R : α → β → Prop} : ∀ {xs : List α} {ys : List β} {i : Nat} {x : α}, All2 R xs ys → xs[i]? = some x → ∃ y, ys[i]? = some y ∧ R x y
  | x :: xs, y :: ys, 0, z, h, e => by simp at e; subst e; exact ⟨y, rfl, h.1⟩
  | x :: xs, y :: ys, i + 1, z, h, e => by simpa using All2.getl h.2 (by simpa using e)
  | [], [], i, z, h, e => by simp at e
  | [], _ :: _, _, _, h, _ => h.elim
  | _ :: _, [], _, _, h, _ => h.elim
theorem All2.app {α β : Type} {R : α → β → Prop} : ∀ {xs xs' : List α} {ys ys' : List β}, All2 R xs ys → All2 R xs' ys' → All2 R (xs ++ xs') (ys ++ ys')
  | [], _, [], _, _, h' => h'
  | _ :: _, _, _ :: _, _, h, h' => ⟨h.1, All2.app h.2 h'⟩
  | [], _, _ :: _, _, h, _ => h.elim
  | _ :: _, _, [], _, h, _ => h.elim
theorem All2.drop {α β : Type} {R : α → β → Prop} : ∀ {xs : List α} {ys : List β} (n : Nat), All2 R xs ys → All2 R (xs.drop n) (ys.drop n)
  | _, _, 0, h => h
  | [], [], n + 1, _ => by simp [All2]
  | _ :: _, _ :: _, n + 1, h => by simpa using All2.drop n h.2
  | [], _ :: _, _ + 1, h => h.elim
  | _ :: _, [], _ + 1, h => h.elim
theorem All2.take {α β : Type} {R : α → β → Prop} : ∀ {xs : List α} {ys : List β} (n : Nat), All2 R xs ys → All2 R (xs.take n) (ys.take n)
  | _, _, 0, _ => by simp [All2]
  | [], [], n + 1, _ => by simp [All2]
  | _ :: _, _ :: _, n + 1, h => by simpa using ⟨h.1, All2.take n h.2⟩
  | [], _ :: _, _ + 1, h => h.elim
  | _ :: _, [], _ + 1, h => h.elim
theorem All2.set {α β : Type} {R : α → β → Prop} : ∀ {xs : List α} {ys : List β} (n : Nat) {x : α} {y : β}, All2 R xs ys → R x y → All2 R (xs.set n x) (ys.set n y)
  | [], [], _, _, _, _, _ => by simp [All2]
  | _ :: _, _ :: _, 0, _, _, h, r => ⟨r, h.2⟩
  | _ :: _, _ :: _, n + 1, _, _, h, r => ⟨h.1, All2.set n h.2 r⟩
  | [], _ :: _, _, _, _, h, _ => h.elim
  | _ :: _, [], _, _, _, h, _ => h.elim
theorem All2.of_get {α β : Type} {R : α → β → Prop} : ∀ {xs : List α} {ys : List β}, xs.length = ys.length → (∀ (i : Nat) (x : α) (y : β), xs[i]? = some x → ys[i]? = some y → R x y) → All2 R xs ys
  | [], [], _, _ => trivial
  | x :: xs, y :: ys, hl, h => ⟨h 0 x y rfl rfl, All2.of_get (by simpa using hl) (fun i a b ha hb => h (i + 1) a b (by simpa using ha) (by simpa using hb))⟩
  | [], _ :: _, hl, _ => by simp at hl
  | _ :: _, [], hl, _ => by simp at hl
/-- rows of elements at an address -/
def Rows {α : Type} (w : World) (F : Nat → Prop) (R : α → List Value → Prop) (sz : Nat) (ad : Option Addr) (l : List α) : Prop :=
  ∀ i (h : i < l.length), ∃ b o cs, ad = some ⟨b, o, none⟩ ∧ F b ∧ w.rangeAt b (o + i * sz) cs ∧ R l[i] cs
/-- cells that read as data, all in blocks that stay (F) -/
def DRep (w : World) (F : Nat → Prop) : (t : Ty) → t.D → List Value → Prop
  | .bool, x, cs => cs = [.bool x]
  | .int k, x, cs => cs = [.int k x]
  | .str, x, cs => cs = [.string x]
  | .sl e, l, cs => ∃ ad c, cs = [.slice ad l.length c] ∧ (l.length ≤ c ∧ (ad = none → c = 0)) ∧ Rows w F (DRep w F e) e.sz ad l
  | .pr a b, x, cs => ∃ c1 c2, cs = c1 ++ c2 ∧ DRep w F a x.1 c1 ∧ DRep w F b x.2 c2
  | .un, _, cs => cs = []
theorem DRep.len {w : World} {F : Nat → Prop} : ∀ {t : Ty} {x : t.D} {cs : List Value}, DRep w F t x cs → cs.length = t.sz
  | .bool, _, _, h => by rw [show _ = _ from h]; rfl
  | .int _, _, _, h => by rw [show _ = _ from h]; rfl
  | .str, _, _, h => by rw [show _ = _ from h]; rfl
  | .sl _, _, _, h => by obtain ⟨_, _, rfl, _⟩ := h; rfl
  | .pr _ _, _, _, h => by obtain ⟨c1, c2, rfl, h1, h2⟩ := h; simp [Ty.sz, DRep.len h1, DRep.len h2]
  | .un, _, _, h => by rw [show _ = _ from h]; rfl
theorem DRep.one {w : World} {F : Nat → Prop} : ∀ {t : Ty} {x : t.D} {cs : List Value}, DRep w F t x cs → ∀ v ∈ cs, v.oneCell' = true
  | .bool, _, _, h => by rw [show _ = _ from h]; simp [Value.oneCell']
  | .int _, _, _, h => by rw [show _ = _ from h]; simp [Value.oneCell']
  | .str, _, _, h => by rw [show _ = _ from h]; simp [Value.oneCell']
  | .sl _, _, _, h => by obtain ⟨_, _, rfl, _⟩ := h; simp [Value.oneCell']
  | .pr _ _, _, _, h => by
    obtain ⟨c1, c2, rfl, h1, h2⟩ := h
    intro v hv
    rcases List.mem_append.1 hv with hv | hv
    · exact DRep.one h1 v hv
    · exact DRep.one h2 v hv
  | .un, _, _, h => by rw [show _ = _ from h]; simp
theorem rangeAt_same {w w' : World} {b o : Nat} {cs : List Value} (hw : w'.heap[b]? = w.heap[b]?) (h : w.rangeAt b o cs) : w'.rangeAt b o cs :=
  fun j v hv => by have := h j v hv; unfold World.cell? at *; rw [show (⟨b, o + j, none⟩ : Addr).block = b from rfl] at *; rw [hw]; exact this
theorem DRep.mono {w w' : World} {F F' : Nat → Prop} (hF : ∀ b, F b → F' b) (hw : ∀ b, F b → w'.heap[b]? = w.heap[b]?) : ∀ {t : Ty} {x : t.D} {cs : List Value}, DRep w F t x cs → DRep w' F' t x cs
  | .bool, _, _, h => h
  | .int _, _, _, h => h
  | .str, _, _, h => h
  | .sl _, _, _, h => by
    obtain ⟨ad, c, e, hc, hr⟩ := h
    refine ⟨ad, c, e, hc, fun i hi => ?_⟩
    obtain ⟨b, o, cs, e1, hb, hra, hd⟩ := hr i hi
    exact ⟨b, o, cs, e1, hF b hb, rangeAt_same (hw b hb) hra, DRep.mono hF hw hd⟩
  | .pr _ _, _, _, h => by
    obtain ⟨c1, c2, e, h1, h2⟩ := h
    exact ⟨c1, c2, e, DRep.mono hF hw h1, DRep.mono hF hw h2⟩
  | .un, _, _, h => h
/-- a cell reads as C: hv: the handles' own values -/
def RepC (w : World) (F : Nat → Prop) (hv : List Value) (v : Value) : C → Prop
  | .b x => v = .bool x
  | .i k n => v = .int k n
  | .s x => v = .string x
  | .ns => v = .slice none 0 0
  | .fz t l => DRep w F (.sl t) l [v]
  | .ow h => hv[h]? = some v ∧ ∃ ad n c, v = .slice ad n c
  | .pt h o => ∃ g, hv[h]? = some (.pointer (some ⟨g, 0, none⟩)) ∧ v = .pointer (some ⟨g, o, none⟩)
  | .pe t x o => ∃ b p cs, v = .pointer (some ⟨b, p + o, none⟩) ∧ F b ∧ w.rangeAt b p cs ∧ DRep w F t x cs
  | .po h i sz o => ∃ g n c, hv[h]? = some (.slice (some ⟨g, 0, none⟩) n c) ∧ v = .pointer (some ⟨g, i * sz + o, none⟩)
  | .pm h i o => ∃ l g, hv[h]? = some (.tuple l) ∧ l[i + 1]? = some (.pointer (some ⟨g, 0, none⟩)) ∧ v = .pointer (some ⟨g, o, none⟩)
  | .np => v = .pointer none
  | .fn f hs => ∃ caps : List Value, v = .func (.func f) #[] caps.toArray ∧ All2 (fun u h => ∃ g, hv[h]? = some (.pointer (some ⟨g, 0, none⟩)) ∧ u = .pointer (some ⟨g, 0, none⟩)) caps hs
  | .nz t l => DRep w F (.sl t) l [v] ∧ ∃ a n c, v = .slice (some a) n c
  | .mp h => ∃ g ps, hv[h]? = some (.tuple (.map (some g) :: ps).toArray) ∧ v = .map (some g)
  | .mn => v = .map none
  | .er b => if b = true then ∃ t p, v = .iface t p else v = .nilIface
  | .iv t x => v = .iface t x
  | .un => True
def C.hs : C → List Nat
  | .ow h | .pt h _ | .po h _ _ _ | .pm h _ _ | .mp h => [h]
  | .fn _ hs => hs
  | _ => []
theorem RepC.mono {w w' : World} {F F' : Nat → Prop} {hv hv' : List Value} (hF : ∀ b, F b → F' b) (hw : ∀ b, F b → w'.heap[b]? = w.heap[b]?) {c : C} (hh : ∀ h ∈ c.hs, ∀ u, hv[h]? = some u → hv'[h]? = some u) {v : Value} (h : RepC w F hv v c) : RepC w' F' hv' v c := by
  cases c with
  | fz t l => exact DRep.mono (t := .sl t) hF hw h
  | ow g => exact ⟨hh g (by simp [C.hs]) _ h.1, h.2⟩
  | pt g o => obtain ⟨b, h1, h2⟩ := h; exact ⟨b, hh g (by simp [C.hs]) _ h1, h2⟩
  | po g i sz o => obtain ⟨b, n, c, h1, h2⟩ := h; exact ⟨b, n, c, hh g (by simp [C.hs]) _ h1, h2⟩
  | pm g i o => obtain ⟨l, b, h1, h2⟩ := h; exact ⟨l, b, hh g (by simp [C.hs]) _ h1, h2⟩
  | pe t x o => obtain ⟨b, p, cs, h1, h2, h3, h4⟩ := h; exact ⟨b, p, cs, h1, hF b h2, rangeAt_same (hw b h2) h3, DRep.mono hF hw h4⟩
  | fn f hs =>
    obtain ⟨caps, e, ha⟩ := h
    exact ⟨caps, e, ha.mono fun u g _ hg ⟨b, h1, h2⟩ => ⟨b, hh g hg _ h1, h2⟩⟩
  | nz t l => exact ⟨DRep.mono (t := .sl t) hF hw h.1, h.2⟩
  | mp g => obtain ⟨b, ps, h1, h2⟩ := h; exact ⟨b, ps, hh g (by simp [C.hs]) _ h1, h2⟩
  | _ => exact h
/-- data as cells' contents -/
def enc : (t : Ty) → t.D → List C
  | .bool, x => [.b x]
  | .int k, x => [.i k x]
  | .str, x => [.s x]
  | .sl e, l => [.fz e l]
  | .pr a b, x => enc a x.1 ++ enc b x.2
  | .un, _ => []
theorem enc_rep {w : World} {F : Nat → Prop} {hv : List Value} : ∀ {t : Ty} {x : t.D} {cs : List Value}, DRep w F t x cs → All2 (RepC w F hv) cs (enc t x)
  | .bool, _, _, h => by rw [show _ = _ from h]; exact ⟨rfl, trivial⟩
  | .int _, _, _, h => by rw [show _ = _ from h]; exact ⟨rfl, trivial⟩
  | .str, _, _, h => by rw [show _ = _ from h]; exact ⟨rfl, trivial⟩
  | .sl e, l, cs, h => by
    have h' := h
    obtain ⟨ad, c, rfl, _⟩ := h
    exact ⟨h', trivial⟩
  | .pr _ _, _, _, h => by
    obtain ⟨c1, c2, rfl, h1, h2⟩ := h
    exact (enc_rep h1).app (enc_rep h2)
  | .un, _, _, h => by rw [show _ = _ from h]; exact trivial
/-- contents as data: what is left over -/
def dec : (t : Ty) → List C → Option (t.D × List C)
  | .bool, .b x :: r => some (x, r)
  | .int k, .i k' x :: r => if k' = k then some (x, r) else none
  | .str, .s x :: r => some (x, r)
  | .sl e, .fz e' l :: r => if h : e' = e then some (h ▸ l, r) else none
  | .sl e, .nz e' l :: r => if h : e' = e then some (h ▸ l, r) else none
  | .sl _, .ns :: r => some ([], r)
  | .pr a b, cs => match dec a cs with
    | some (x, r) => match dec b r with
      | some (y, r') => some ((x, y), r')
      | none => none
    | none => none
  | .un, cs => some ((), cs)
  | _, _ => none
theorem dec_rep {w : World} {F : Nat → Prop} {hv : List Value} : ∀ {t : Ty} {x : t.D} {cl r : List C} {cs : List Value}, dec t cl = some (x, r) → All2 (RepC w F hv) cs cl → ∃ c1 c2, cs = c1 ++ c2 ∧ DRep w F t x c1 ∧ All2 (RepC w F hv) c2 r
  | .bool, x, cl, r, cs, h, ha => by
    match cl, h with
    | .b y :: r', h =>
      simp only [dec, Option.some.injEq, Prod.mk.injEq] at h
      obtain ⟨rfl, rfl⟩ := h
      match cs, ha with
      | c :: cs, ha => exact ⟨[c], cs, rfl, by rw [show c = _ from ha.1]; rfl, ha.2⟩
  | .int k, x, cl, r, cs, h, ha => by
    match cl, h with
    | .i k' y :: r', h =>
      simp only [dec] at h
      split at h
      · rename_i hk
        subst hk
        simp only [Option.some.injEq, Prod.mk.injEq] at h
        obtain ⟨rfl, rfl⟩ := h
        match cs, ha with
        | c :: cs, ha => exact ⟨[c], cs, rfl, by rw [show c = _ from ha.1]; rfl, ha.2⟩
      · cases h
  | .str, x, cl, r, cs, h, ha => by
    match cl, h with
    | .s y :: r', h =>
      simp only [dec, Option.some.injEq, Prod.mk.injEq] at h
      obtain ⟨rfl, rfl⟩ := h
      match cs, ha with
      | c :: cs, ha => exact ⟨[c], cs, rfl, by rw [show c = _ from ha.1]; rfl, ha.2⟩
  | .sl e, x, cl, r, cs, h, ha => by
    match cl, h with
    | .fz e' l :: r', h =>
      simp only [dec] at h
      split at h
      · rename_i hk
        subst hk
        simp only [Option.some.injEq, Prod.mk.injEq] at h
        obtain ⟨rfl, rfl⟩ := h
        match cs, ha with
        | c :: cs, ha => exact ⟨[c], cs, rfl, ha.1, ha.2⟩
      · cases h
    | .nz e' l :: r', h =>
      simp only [dec] at h
      split at h
      · rename_i hk
        subst hk
        simp only [Option.some.injEq, Prod.mk.injEq] at h
        obtain ⟨rfl, rfl⟩ := h
        match cs, ha with
        | c :: cs, ha => exact ⟨[c], cs, rfl, ha.1.1, ha.2⟩
      · cases h
    | .ns :: r', h =>
      simp only [dec, Option.some.injEq, Prod.mk.injEq] at h
      obtain ⟨rfl, rfl⟩ := h
      match cs, ha with
      | c :: cs, ha => exact ⟨[c], cs, rfl, ⟨none, 0, by rw [show c = _ from ha.1]; rfl, ⟨Nat.le_refl _, fun _ => rfl⟩, fun i hi => by simp at hi⟩, ha.2⟩
  | .pr a b, x, cl, r, cs, h, ha => by
    simp only [dec] at h
    split at h
    · rename_i y r1 h1
      split at h
      · rename_i z r2 h2
        simp only [Option.some.injEq, Prod.mk.injEq] at h
        obtain ⟨rfl, rfl⟩ := h
        obtain ⟨c1, c2, rfl, d1, a2⟩ := dec_rep h1 ha
        obtain ⟨c3, c4, rfl, d3, a4⟩ := dec_rep h2 a2
        exact ⟨c1 ++ c3, c4, by simp, ⟨c1, c3, rfl, d1, d3⟩, a4⟩
      · cases h
    · cases h
  | .un, x, cl, r, cs, h, ha => by
    simp only [dec, Option.some.injEq, Prod.mk.injEq] at h
    obtain ⟨_, rfl⟩ := h
    exact ⟨[], cs, rfl, rfl, ha⟩
def encA : (t : Ty) → t.D → A
  | .bool, x => .c (.b x)
  | .int k, x => .c (.i k x)
  | .str, x => .c (.s x)
  | .sl e, x => .c (.fz e x)
  | .pr a b, x => .ag (enc (.pr a b) x)
  | .un, _ => .ag []
end Go.Proofs.YtcpimjekllkbkaaGreatDoor.E
/- What a walk of value's functions asks of the world: the package-level variables of strconv read as their initialisers lay them. -/
namespace Go.Proofs.YtcpimjekllkbkaaGreatDoor
open Go.RowKit

theorem g_pow10 : Tryz.prog.globalNamed "internal/strconv.uint64pow10" = some 0 := by kernel_rfl
theorem g_syn : Tryz.prog.globalNamed "strconv.ErrSyntax" = some 2 := by kernel_rfl
theorem g_rng : Tryz.prog.globalNamed "strconv.ErrRange" = some 3 := by kernel_rfl

/-- The variables lie below the heap's end, and read so. -/
structure Laid (w : World) : Prop where
  pow10 : Lib.TabIs Tryz.prog w "internal/strconv.uint64pow10" .u64 Lib.pow10Tab
  syn : ∃ (tp : TypeId) (p : Value), w.var? Tryz.prog "strconv.ErrSyntax" = some #[.iface tp p]
  rng : ∃ (tp : TypeId) (p : Value), w.var? Tryz.prog "strconv.ErrRange" = some #[.iface tp p]
  size : 200 ≤ w.heap.size ∨ (0 < w.heap.size ∧ 2 < w.heap.size ∧ 3 < w.heap.size)
theorem Laid.lts {w : World} (h : Laid w) : 0 < w.heap.size ∧ 2 < w.heap.size ∧ 3 < w.heap.size := by
  rcases h.size with h | h <;> omega
theorem Laid.of_below {w W : World} (h : Laid w) (hb : Below w.heap.size w W) : Laid W := by
  obtain ⟨l1, l2, l3⟩ := h.lts
  have hs := hb.size
  obtain ⟨t1, p1, h1⟩ := h.syn
  obtain ⟨t2, p2, h2⟩ := h.rng
  exact ⟨var?_below hb g_pow10 l1 h.pow10, ⟨t1, p1, var?_below hb g_syn l2 h1⟩, ⟨t2, p2, var?_below hb g_rng l3 h2⟩, .inr (by omega)⟩
theorem Laid.below_grow (w : World) (k : Nat) (os : Array Obj) : Below w.heap.size w (Sort.grow (w.drewN k) os) :=
  ⟨rfl, rfl, rfl, by simp [Sort.grow], fun j hj => by
    show ((w.drewN k).heap ++ os)[j]? = _
    rw [Array.getElem?_append_left (by simpa using hj)]
    rfl⟩
end Go.Proofs.YtcpimjekllkbkaaGreatDoor
namespace Go.Proofs.YtcpimjekllkbkaaGreatDoor.E
open Go.RowKit
/-! # 0. Package variables that a proof reads: strconv's -/
def layG : List Nat := [0, 2, 3]
structure LayC (w : World) : Prop where
  pow10 : Lib.TabIs Tryz.prog w "internal/strconv.uint64pow10" .u64 Lib.pow10Tab
  syn : ∃ (tp : TypeId) (p : Value), w.var? Tryz.prog "strconv.ErrSyntax" = some #[.iface tp p]
  rng : ∃ (tp : TypeId) (p : Value), w.var? Tryz.prog "strconv.ErrRange" = some #[.iface tp p]
theorem var_same {w w' : World} {n : String} {g : Nat} (hg : Tryz.prog.globalNamed n = some g) (h : w'.heap[g]? = w.heap[g]?) : w'.var? Tryz.prog n = w.var? Tryz.prog n := by
  unfold World.var?
  rw [hg]
  simp only [Option.bind_some, h]
theorem LayC.same {w w' : World} (h : ∀ g ∈ layG, w'.heap[g]? = w.heap[g]?) (c : LayC w) : LayC w' := by
  have h1 := h 0 (by simp [layG])
  have h2 := h 2 (by simp [layG])
  have h3 := h 3 (by simp [layG])
  refine ⟨?_, ?_, ?_⟩
  · have := c.pow10
    unfold Lib.TabIs at *
    rw [var_same g_pow10 h1]
    exact this
  · obtain ⟨t, p, e⟩ := c.syn
    exact ⟨t, p, (var_same g_syn h2).trans e⟩
  · obtain ⟨t, p, e⟩ := c.rng
    exact ⟨t, p, (var_same g_rng h3).trans e⟩
theorem LayC.laid {w : World} (c : LayC w) (h : ∀ g ∈ layG, g < w.heap.size) : Laid w :=
  ⟨c.pow10, c.syn, c.rng, .inr ⟨h _ (by simp [layG]), h _ (by simp [layG]), h _ (by simp [layG])⟩⟩
theorem LayC.of {w : World} (h : Laid w) : LayC w ∧ ∀ g ∈ layG, g < w.heap.size := by
  refine ⟨⟨h.pow10, h.syn, h.rng⟩, fun g hg => ?_⟩
  obtain ⟨h1, h2, h3⟩ := h.lts
  simp only [layG, List.mem_cons, List.mem_nil_iff, or_false] at hg
  rcases hg with rfl | rfl | rfl <;> assumption
end Go.Proofs.YtcpimjekllkbkaaGreatDoor.E
namespace Go.Proofs.YtcpimjekllkbkaaGreatDoor.E
open Go.RowKit
/-! # 2. The state: variables and blocks of one's own -/
def unT : T := .a (.c .un)
/-- the temporaries of which something is known, by number; their number; the blocks of one's own -/
structure St where
  n : Nat
  t : List (Nat × T)
  H : List Blk
def look : List (Nat × T) → Nat → T
  | [], _ => unT
  | (j, x) :: r, i => bif Nat.beq j i then x else look r i
def delT (l : List (Nat × T)) (i : Nat) : List (Nat × T) := l.filter fun p => !Nat.beq p.1 i
def insT : List (Nat × T) → Nat → T → List (Nat × T)
  | [], i, x => [(i, x)]
  | (j, y) :: r, i, x => bif Nat.beq j i then (i, x) :: delT r i else bif Nat.blt i j then (i, x) :: (j, y) :: delT r i else (j, y) :: insT r i x
theorem look_mem : ∀ (l : List (Nat × T)) (i : Nat), look l i = unT ∨ (i, look l i) ∈ l
  | [], _ => .inl rfl
  | (j, x) :: r, i => by
    simp only [look]
    cases e : Nat.beq j i
    · rcases look_mem r i with h | h
      · exact .inl h
      · exact .inr (List.mem_cons_of_mem _ h)
    · have := Nat.eq_of_beq_eq_true e
      subst this
      exact .inr (by simp)
theorem beq_ne {i j : Nat} (h : Nat.beq i j = false) : i ≠ j := by
  rintro rfl
  simp at h
theorem mem_del {l : List (Nat × T)} {i : Nat} {p : Nat × T} (h : p ∈ delT l i) : p ∈ l ∧ p.1 ≠ i := by
  simp only [delT, List.mem_filter, Bool.not_eq_true'] at h
  exact ⟨h.1, beq_ne h.2⟩
theorem mem_ins : ∀ {l : List (Nat × T)} {i : Nat} {x : T} {p : Nat × T}, p ∈ insT l i x → p = (i, x) ∨ p ∈ l ∧ p.1 ≠ i
  | [], i, x, p, h => by simp only [insT, List.mem_singleton] at h; exact .inl h
  | (j, y) :: r, i, x, p, h => by
    simp only [insT] at h
    cases e : Nat.beq j i with
    | true =>
      rw [e] at h
      rcases List.mem_cons.1 h with h | h
      · exact .inl h
      · exact .inr ⟨List.mem_cons_of_mem _ (mem_del h).1, (mem_del h).2⟩
    | false =>
      rw [e] at h
      cases e2 : Nat.blt i j with
      | true =>
        rw [e2] at h
        rcases List.mem_cons.1 h with h | h
        · exact .inl h
        · rcases List.mem_cons.1 h with h | h
          · subst h; exact .inr ⟨by simp, beq_ne e⟩
          · exact .inr ⟨List.mem_cons_of_mem _ (mem_del h).1, (mem_del h).2⟩
      | false =>
        rw [e2] at h
        rcases List.mem_cons.1 h with h | h
        · subst h; exact .inr ⟨by simp, beq_ne e⟩
        · rcases mem_ins h with h | h
          · exact .inl h
          · exact .inr ⟨List.mem_cons_of_mem _ h.1, h.2⟩
def RepA (w : World) (F : Nat → Prop) (hv : List Value) (v : Value) : A → Prop
  | .c x => RepC w F hv v x
  | .ag l => ∃ cs, v = .agg cs ∧ All2 (RepC w F hv) cs.toList l
def RepT (w : World) (F : Nat → Prop) (hv : List Value) (v : Value) : T → Prop
  | .a x => RepA w F hv v x
  | .tu l => ∃ vs, v = .tuple vs ∧ All2 (RepA w F hv) vs.toList l
def hsL : List C → List Nat
  | [] => []
  | c :: r => c.hs ++ hsL r
def A.hs : A → List Nat
  | .c x => x.hs
  | .ag l => hsL l
def T.hs : T → List Nat
  | .a x => x.hs
  | .tu l => (l.map A.hs).flatten
theorem mem_hsL {c : C} {l : List C} {h : Nat} (hc : c ∈ l) (hh : h ∈ c.hs) : h ∈ hsL l := by
  induction l with
  | nil => cases hc
  | cons x r ih => rcases List.mem_cons.1 hc with rfl | hc <;> simp [hsL, *]
structure Step (w : World) (F : Nat → Prop) (hv : List Value) (w' : World) (F' : Nat → Prop) (hv' : List Value) (X : Nat → Prop) : Prop where
  f : ∀ b, F b → F' b
  w : ∀ b, F b → w'.heap[b]? = w.heap[b]?
  h : ∀ h, X h → ∀ u, hv[h]? = some u → hv'[h]? = some u
section
variable {w w' : World} {F F' : Nat → Prop} {hv hv' : List Value} {X : Nat → Prop}
theorem Step.c (s : Step w F hv w' F' hv' X) {c : C} (hx : ∀ h ∈ c.hs, X h) {v : Value} (h : RepC w F hv v c) : RepC w' F' hv' v c := RepC.mono s.f s.w (fun g hg => s.h g (hx g hg)) h
theorem Step.l (s : Step w F hv w' F' hv' X) {l : List C} (hx : ∀ h ∈ hsL l, X h) {vs : List Value} (h : All2 (RepC w F hv) vs l) : All2 (RepC w' F' hv') vs l :=
  h.mono fun _ _ _ hc r => s.c (fun g hg => hx g (mem_hsL hc hg)) r
theorem Step.a (s : Step w F hv w' F' hv' X) {x : A} (hx : ∀ h ∈ x.hs, X h) {v : Value} (h : RepA w F hv v x) : RepA w' F' hv' v x := by
  cases x with
  | c x => exact s.c hx h
  | ag l => obtain ⟨cs, e, h⟩ := h; exact ⟨cs, e, s.l hx h⟩
theorem Step.t (s : Step w F hv w' F' hv' X) {x : T} (hx : ∀ h ∈ x.hs, X h) {v : Value} (h : RepT w F hv v x) : RepT w' F' hv' v x := by
  cases x with
  | a x => exact s.a hx h
  | tu l =>
    obtain ⟨vs, e, h⟩ := h
    exact ⟨vs, e, h.mono fun _ x _ hm r => s.a (fun g hg => hx g (by simp only [T.hs, List.mem_flatten, List.mem_map]; exact ⟨_, ⟨x, hm, rfl⟩, hg⟩)) r⟩
end
def DReps (w : World) (F : Nat → Prop) (t : Ty) : List t.D → List Value → Prop
  | [], cs => cs = []
  | x :: l, cs => ∃ c1 c2, cs = c1 ++ c2 ∧ DRep w F t x c1 ∧ DReps w F t l c2
theorem DReps.mono {w w' : World} {F F' : Nat → Prop} (hF : ∀ b, F b → F' b) (hw : ∀ b, F b → w'.heap[b]? = w.heap[b]?) {t : Ty} : ∀ {l : List t.D} {cs : List Value}, DReps w F t l cs → DReps w' F' t l cs
  | [], _, h => h
  | _ :: _, _, ⟨c1, c2, e, h1, h2⟩ => ⟨c1, c2, e, DRep.mono hF hw h1, DReps.mono hF hw h2⟩
theorem DReps.len {w : World} {F : Nat → Prop} {t : Ty} : ∀ {l : List t.D} {cs : List Value}, DReps w F t l cs → cs.length = l.length * t.sz
  | [], _, h => by rw [show _ = _ from h]; simp
  | x :: l, _, ⟨c1, c2, e, h1, h2⟩ => by rw [e, List.length_append, DRep.len h1, DReps.len h2, List.length_cons, Nat.succ_mul]; omega
theorem DReps.one {w : World} {F : Nat → Prop} {t : Ty} : ∀ {l : List t.D} {cs : List Value}, DReps w F t l cs → ∀ v ∈ cs, v.oneCell' = true
  | [], _, h => by rw [show _ = _ from h]; simp
  | x :: l, _, ⟨c1, c2, e, h1, h2⟩ => by
    subst e
    intro v hv
    rcases List.mem_append.1 hv with hv | hv
    · exact DRep.one h1 v hv
    · exact DReps.one h2 v hv
theorem DReps.app {w : World} {F : Nat → Prop} {t : Ty} : ∀ {l m : List t.D} {cs ds : List Value}, DReps w F t l cs → DReps w F t m ds → DReps w F t (l ++ m) (cs ++ ds)
  | [], _, _, _, h, h' => by rw [show _ = _ from h]; exact h'
  | x :: l, m, _, ds, ⟨c1, c2, e, h1, h2⟩, h' => ⟨c1, c2 ++ ds, by rw [e]; simp, h1, DReps.app h2 h'⟩
theorem DReps.at {w : World} {F : Nat → Prop} {t : Ty} : ∀ {l : List t.D} {cs : List Value} {i : Nat} (hi : i < l.length), DReps w F t l cs → DRep w F t l[i] ((cs.drop (i * t.sz)).take t.sz)
  | x :: l, _, 0, _, ⟨c1, c2, e, h1, h2⟩ => by
    have := DRep.len h1
    subst e
    simp only [Nat.zero_mul, List.drop_zero, List.getElem_cons_zero]
    rw [← this, List.take_left]
    exact h1
  | x :: l, _, i + 1, hi, ⟨c1, c2, e, h1, h2⟩ => by
    have hl := DRep.len h1
    subst e
    have hd : (c1 ++ c2).drop ((i + 1) * t.sz) = c2.drop (i * t.sz) := by
      rw [Nat.succ_mul, Nat.add_comm (i * t.sz), ← List.drop_drop, ← hl, List.drop_left]
    rw [hd]
    simpa using DReps.at (by simpa using hi) h2
/-- own block of a handle -/
def vblock : Value → Option Nat
  | .pointer (some a) => some a.block
  | .slice (some a) _ _ => some a.block
  | .map (some r) => some r
  | _ => none
def vblocks : Value → List Nat
  | .tuple vs => vs.toList.filterMap vblock
  | v => (vblock v).toList
def Blk.own : Blk → Bool
  | .box .. | .arr .. | .mp .. => true
  | _ => false
def Blk.refs : Blk → List Nat
  | .box _ _ c => hsL c
  | _ => []
def Blk.pn : Blk → Bool
  | .box b _ _ => b
  | _ => false
def owns (v : Value) (B : Blk) (g : Nat) : Prop := B.own = true ∧ g ∈ vblocks v
/-- an entry of a map: its value, or the box to which it points -/
def MRep (w : World) (F : Nat → Prop) (ps : List Value) (bx : Option Nat) (kt vt : Ty) (i : Nat) (e : MapEntry) (x : kt.D × vt.D) : Prop :=
  DRep w F kt x.1 [e.key] ∧ match bx with
    | none => RepA w F [] e.val (encA vt x.2)
    | some ty => ps[i]? = some e.val ∧ ∃ b cs, e.val = .pointer (some ⟨b, 0, none⟩) ∧ w.heap[b]? = some (.cells cs ty (0, 0)) ∧ DRep w F vt x.2 cs.toList
def BRep (w : World) (F : Nat → Prop) (hv : List Value) (v : Value) : Blk → Prop
  | .box _ ty c => ∃ g cs, v = .pointer (some ⟨g, 0, none⟩) ∧ w.heap[g]? = some (.cells cs ty (0, 0)) ∧ All2 (RepC w F hv) cs.toList c
  | .arr ty t l => ∃ xs, w.ownsRow 0 ty t.sz v l.length xs ∧ DReps w F t l xs
  | .fzd t l => DRep w F (.sl t) l [v]
  | .mp bx kt vt l => ∃ g es clock ps, v = .tuple (.map (some g) :: ps).toArray ∧ w.heap[g]? = some (.map es clock) ∧ es.size = l.length ∧ (∀ i e x, es[i]? = some e → l[i]? = some x → MRep w F ps bx kt vt i e x) ∧ (vblocks v).Nodup ∧ (match bx with
    | none => ps = []
    | some _ => ps.length = l.length)
  | .gone => True
  | .slot _ => v = .nilIface
theorem mblocks {g : Nat} {ps : List Value} {k : Nat} : k ∈ vblocks (.tuple (.map (some g) :: ps).toArray) ↔ k = g ∨ k ∈ ps.filterMap vblock := by
  simp [vblocks, vblock]
theorem BRep.own_lt {w : World} {F : Nat → Prop} {hv : List Value} {v : Value} {B : Blk} (h : BRep w F hv v B) {g : Nat} (ho : owns v B g) : g < w.heap.size := by
  cases B with
  | box pn ty c =>
    obtain ⟨b, cs, rfl, hb, _⟩ := h
    simp only [owns, vblocks, vblock, Option.toList, List.mem_singleton] at ho
    rw [ho.2]
    exact (Array.getElem?_eq_some_iff.1 hb).1
  | arr ty t l =>
    obtain ⟨xs, ⟨_, h⟩, _⟩ := h
    rcases h with ⟨rfl, _⟩ | ⟨b, cap, cur, rfl, _, hb, _⟩
    · simp [owns, vblocks, vblock] at ho
    · simp only [owns, vblocks, vblock, Option.toList, List.mem_singleton] at ho
      rw [ho.2]
      exact (Array.getElem?_eq_some_iff.1 hb).1
  | mp bx kt vt l =>
    obtain ⟨r, es, clock, ps, rfl, hb, hsz, hall, _, hps⟩ := h
    rcases mblocks.1 ho.2 with rfl | hm
    · exact (Array.getElem?_eq_some_iff.1 hb).1
    · cases bx with
      | none => simp only at hps; subst hps; simp at hm
      | some ty =>
        simp only at hps
        obtain ⟨p, hp, hv⟩ := List.mem_filterMap.1 hm
        obtain ⟨i, hi, rfl⟩ := List.getElem_of_mem hp
        have he := hall i _ _ (Array.getElem?_eq_getElem (by omega)) (List.getElem?_eq_getElem (by omega))
        obtain ⟨_, h1, b, cs, h2, h3, _⟩ := he
        rw [List.getElem?_eq_getElem hi] at h1
        injection h1 with h1
        rw [h1, h2] at hv
        simp only [vblock, Option.some.injEq] at hv
        rw [← hv]
        exact (Array.getElem?_eq_some_iff.1 h3).1
  | _ => simp [owns, Blk.own] at ho
theorem encA_hs : ∀ (t : Ty) (x : t.D), (encA t x).hs = [] := by
  have enc_hs : ∀ (t : Ty) (x : t.D), hsL (enc t x) = [] := by
    intro t
    induction t with
    | pr a b iha ihb =>
      intro x
      have app : ∀ l m : List C, hsL l = [] → hsL m = [] → hsL (l ++ m) = [] := by
        intro l m
        induction l with
        | nil => intro _ h; exact h
        | cons c l ih =>
          intro h1 h2
          simp only [hsL, List.append_eq_nil_iff] at h1
          simp only [List.cons_append, hsL, h1.1, ih h1.2 h2]
          rfl
      exact app _ _ (iha x.1) (ihb x.2)
    | _ => intro x; rfl
  intro t x
  cases t with
  | pr a b => exact enc_hs (.pr a b) x
  | _ => rfl
/-- a block's content stays when its own cells stay and what it points to keeps its place -/
theorem BRep.step {w w' : World} {F F' : Nat → Prop} {hv hv' : List Value} {X : Nat → Prop} (s : Step w F hv w' F' hv' X) {v : Value} {B : Blk} (hx : ∀ h ∈ B.refs, X h) (ho : ∀ g, owns v B g → w'.heap[g]? = w.heap[g]?) (h : BRep w F hv v B) : BRep w' F' hv' v B := by
  cases B with
  | box pn ty c =>
    obtain ⟨b, cs, e, hb, hc⟩ := h
    exact ⟨b, cs, e, (ho b ⟨rfl, by rw [e]; simp [vblocks, vblock]⟩).trans hb, s.l hx hc⟩
  | arr ty t l =>
    obtain ⟨xs, ⟨hl, hr⟩, hd⟩ := h
    refine ⟨xs, ⟨hl, ?_⟩, hd.mono s.f s.w⟩
    rcases hr with hr | ⟨g, cap, cur, e, hg, hh, r⟩
    · exact .inl hr
    · exact .inr ⟨g, cap, cur, e, hg, (ho g ⟨rfl, by rw [e]; simp [vblocks, vblock]⟩).trans hh, r⟩
  | mp bx kt vt l =>
    obtain ⟨g, es, clock, ps, e, hg, hsz, hall, nd, hps⟩ := h
    refine ⟨g, es, clock, ps, e, (ho g ⟨rfl, by rw [e]; exact mblocks.2 (.inl rfl)⟩).trans hg, hsz, fun i en x h1 h2 => ?_, nd, hps⟩
    obtain ⟨hk, hv⟩ := hall i en x h1 h2
    refine ⟨DRep.mono s.f s.w hk, ?_⟩
    cases bx with
    | none => exact (⟨s.f, s.w, fun _ _ _ h => by cases h⟩ : Step w F [] w' F' [] (fun _ => False)).a (fun h hh => by rw [encA_hs] at hh; cases hh) hv
    | some ty =>
      obtain ⟨h3, b, cs, h4, h5, h6⟩ := hv
      refine ⟨h3, b, cs, h4, (ho b ⟨rfl, ?_⟩).trans h5, DRep.mono s.f s.w h6⟩
      rw [e]
      exact mblocks.2 (.inr (List.mem_filterMap.2 ⟨en.val, List.mem_of_getElem? h3, by rw [h4]; rfl⟩))
  | fzd t l => exact DRep.mono (t := .sl t) s.f s.w h
  | gone => trivial
  | slot i => exact h
/-- what a call may change (u), what was frozen when it began (f), and where boxes that were passed lie (p) -/
structure U0 where
  u : Nat → Prop
  f : Nat → Prop
  p : Nat → Value → Prop
/-- package variables that were laid, and stay -/
structure Lay0 (w0 : World) (U : U0) : Prop where
  c : LayC w0
  f : ∀ g ∈ layG, U.f g
  u : ∀ g ∈ layG, ¬ U.u g
  s : ∀ g ∈ layG, g < w0.heap.size
structure Inv (w0 : World) (U : U0) (w : World) (F : Nat → Prop) (hv : List Value) (H : List Blk) : Prop where
  os : w.os = w0.os
  tape : w.tape = w0.tape
  output : w.output = w0.output
  size : w0.heap.size ≤ w.heap.size
  old : ∀ k, k < w0.heap.size → ¬ U.u k → w.heap[k]? = w0.heap[k]?
  fb : ∀ b, F b → b < w.heap.size
  f0 : ∀ b, U.f b → F b
  f1 : ∀ b, F b → U.f b ∨ w0.heap.size ≤ b ∨ U.u b
  len : hv.length = H.length
  rep : ∀ (h : Nat) (v : Value) (B : Blk), hv[h]? = some v → H[h]? = some B → BRep w F hv v B
  own : ∀ (h : Nat) (v : Value) (B : Blk) (g : Nat), hv[h]? = some v → H[h]? = some B → owns v B g → ¬ F g ∧ (w0.heap.size ≤ g ∨ U.u g)
  dis : ∀ (h h' : Nat) (v v' : Value) (B B' : Blk) (g : Nat), hv[h]? = some v → H[h]? = some B → hv[h']? = some v' → H[h']? = some B' → owns v B g → owns v' B' g → h = h'
  pin : ∀ (h : Nat) (v : Value) (B : Blk), hv[h]? = some v → H[h]? = some B → B.pn = true → U.p h v
  lay : Lay0 w0 U
section
variable {w0 w w' : World} {U : U0} {F F' : Nat → Prop} {hv : List Value} {H : List Blk}
theorem Inv.layC (iv : Inv w0 U w F hv H) : LayC w := LayC.same (fun g hg => iv.old g (iv.lay.s g hg) (iv.lay.u g hg)) iv.lay.c
theorem Inv.layF (iv : Inv w0 U w F hv H) : ∀ g ∈ layG, F g := fun g hg => iv.f0 g (iv.lay.f g hg)
/-- a world that has only grown (and blocks that stay for good) -/
theorem Inv.grow (iv : Inv w0 U w F hv H) (hos : w'.os = w.os) (htape : w'.tape = w.tape) (hout : w'.output = w.output) (hsz : w.heap.size ≤ w'.heap.size)
    (hk : ∀ k, k < w.heap.size → w'.heap[k]? = w.heap[k]?) (hF : ∀ b, F b → F' b) (hF' : ∀ b, F' b → F b ∨ w.heap.size ≤ b ∧ b < w'.heap.size) : Inv w0 U w' F' hv H := by
  have hs : Step w F hv w' F' hv (fun _ => True) := ⟨hF, fun b hb => hk b (iv.fb b hb), fun _ _ _ hu => hu⟩
  refine ⟨hos.trans iv.os, htape.trans iv.tape, hout.trans iv.output, Nat.le_trans iv.size hsz, fun k h1 h2 => (hk k (Nat.lt_of_lt_of_le h1 iv.size)).trans (iv.old k h1 h2), fun b hb => ?_, fun b hb => hF b (iv.f0 b hb), fun b hb => ?_, iv.len, fun h v B h1 h2 => ?_, fun h v B g h1 h2 h3 => ⟨fun hb => ?_, (iv.own h v B g h1 h2 h3).2⟩, iv.dis, iv.pin, iv.lay⟩
  · rcases hF' b hb with hb | hb
    · exact Nat.lt_of_lt_of_le (iv.fb b hb) hsz
    · exact hb.2
  · rcases hF' b hb with hb | hb
    · exact iv.f1 b hb
    · exact .inr (.inl (Nat.le_trans iv.size hb.1))
  · have hr := iv.rep h v B h1 h2
    exact hr.step hs (fun _ _ => trivial) (fun g hg => hk g (hr.own_lt hg))
  · rcases hF' g hb with hb | hb
    · exact (iv.own h v B g h1 h2 h3).1 hb
    · have := (iv.rep h v B h1 h2).own_lt h3
      omega
/-- a handle more, whose block (if it has one) is new -/
theorem Inv.push (iv : Inv w0 U w F hv H) {v : Value} {B : Blk} (N : Nat) (hN : w0.heap.size ≤ N) (hold : ∀ (h : Nat) (u : Value) (C : Blk) (g : Nat), hv[h]? = some u → H[h]? = some C → owns u C g → g < N) (hr : BRep w F (hv ++ [v]) v B) (ho : ∀ g, owns v B g → N ≤ g ∧ ¬ F g) (hp : B.pn = false) : Inv w0 U w F (hv ++ [v]) (H ++ [B]) := by
  have hs : Step w F hv w F (hv ++ [v]) (fun _ => True) := ⟨fun _ h => h, fun _ _ => rfl, fun h _ u hu => by rw [List.getElem?_append_left (List.getElem?_eq_some_iff.1 hu).1]; exact hu⟩
  have split : ∀ {h u C}, (hv ++ [v])[h]? = some u → (H ++ [B])[h]? = some C → (hv[h]? = some u ∧ H[h]? = some C) ∨ (h = hv.length ∧ u = v ∧ C = B) := by
    intro h u C h1 h2
    by_cases hlt : h < hv.length
    · rw [List.getElem?_append_left hlt] at h1
      rw [List.getElem?_append_left (by rw [← iv.len]; exact hlt)] at h2
      exact .inl ⟨h1, h2⟩
    · have hle : hv.length ≤ h := by omega
      rw [List.getElem?_append_right hle] at h1
      rw [List.getElem?_append_right (by rw [← iv.len]; exact hle), ← iv.len] at h2
      by_cases h0 : h - hv.length = 0
      · rw [h0] at h1 h2
        simp at h1 h2
        exact .inr ⟨by omega, h1.symm, h2.symm⟩
      · obtain ⟨q, hq⟩ : ∃ q, h - hv.length = q + 1 := ⟨h - hv.length - 1, by omega⟩
        rw [hq] at h1
        simp at h1
  refine ⟨iv.os, iv.tape, iv.output, iv.size, iv.old, iv.fb, iv.f0, iv.f1, by simp [iv.len], fun h u C h1 h2 => ?_, fun h u C g h1 h2 h3 => ?_, fun h h' u u' C C' g h1 h2 h1' h2' h3 h3' => ?_, fun h u C h1 h2 h3 => ?_, iv.lay⟩
  · rcases split h1 h2 with ⟨a, b⟩ | ⟨rfl, rfl, rfl⟩
    · exact (iv.rep h u C a b).step hs (fun _ _ => trivial) (fun _ _ => rfl)
    · exact hr
  · rcases split h1 h2 with ⟨a, b⟩ | ⟨rfl, rfl, rfl⟩
    · exact iv.own h u C g a b h3
    · exact ⟨(ho g h3).2, .inl (Nat.le_trans hN (ho g h3).1)⟩
  · rcases split h1 h2 with ⟨a, b⟩ | ⟨rfl, rfl, rfl⟩ <;> rcases split h1' h2' with ⟨a', b'⟩ | ⟨rfl, rfl, rfl⟩
    · exact iv.dis h h' u u' C C' g a b a' b' h3 h3'
    · have := hold h u C g a b h3
      have := (ho g h3').1
      omega
    · have := hold h' u' C' g a' b' h3'
      have := (ho g h3).1
      omega
    · rfl
  · rcases split h1 h2 with ⟨a, b⟩ | ⟨rfl, rfl, rfl⟩
    · exact iv.pin h u C a b h3
    · rw [hp] at h3; cases h3
/-- one handle's block has been written, frozen, or moved -/
theorem Inv.upd (iv : Inv w0 U w F hv H) {i : Nat} {v v' : Value} {B B' : Blk} (hi : hv[i]? = some v) (hB : H[i]? = some B)
    (hos : w'.os = w.os) (htape : w'.tape = w.tape) (hout : w'.output = w.output) (hsz : w.heap.size ≤ w'.heap.size)
    (hk : ∀ k, k < w.heap.size → ¬ owns v B k → w'.heap[k]? = w.heap[k]?) (hF : ∀ b, F b → F' b) (hF' : ∀ b, F' b → F b ∨ owns v B b)
    (hst : v' = v ∨ ∀ (h : Nat) (u : Value) (C : Blk), hv[h]? = some u → H[h]? = some C → h ≠ i → i ∉ C.refs)
    (hr : BRep w' F' (hv.set i v') v' B') (ho : ∀ g, owns v' B' g → ¬ F' g ∧ (owns v B g ∨ w.heap.size ≤ g)) (hp : B'.pn = true → v' = v ∧ B.pn = true) : Inv w0 U w' F' (hv.set i v') (H.set i B') := by
  have hil : i < hv.length := (List.getElem?_eq_some_iff.1 hi).1
  have hiH : i < H.length := (List.getElem?_eq_some_iff.1 hB).1
  have hs : Step w F hv w' F' (hv.set i v') (fun h => v' = v ∨ h ≠ i) := ⟨hF, fun b hb => hk b (iv.fb b hb) (fun ho' => (iv.own i v B b hi hB ho').1 hb), fun h hx u hu => by
    by_cases e : h = i
    · subst e
      rcases hx with rfl | hx
      · rw [List.getElem?_set_self hil]; rw [hi] at hu; exact hu
      · exact absurd rfl hx
    · rw [List.getElem?_set_ne (Ne.symm e)]; exact hu⟩
  have split : ∀ {h u C}, (hv.set i v')[h]? = some u → (H.set i B')[h]? = some C → (h ≠ i ∧ hv[h]? = some u ∧ H[h]? = some C) ∨ (h = i ∧ u = v' ∧ C = B') := by
    intro h u C h1 h2
    by_cases e : h = i
    · subst e
      rw [List.getElem?_set_self hil] at h1
      rw [List.getElem?_set_self hiH] at h2
      exact .inr ⟨rfl, (Option.some.inj h1).symm, (Option.some.inj h2).symm⟩
    · rw [List.getElem?_set_ne (Ne.symm e)] at h1 h2
      exact .inl ⟨e, h1, h2⟩
  refine ⟨hos.trans iv.os, htape.trans iv.tape, hout.trans iv.output, Nat.le_trans iv.size hsz, fun k h1 h2 => ?_, fun b hb => ?_, fun b hb => hF b (iv.f0 b hb), fun b hb => ?_, by simp [iv.len], fun h u C h1 h2 => ?_, fun h u C g h1 h2 h3 => ?_, fun h h' u u' C C' g h1 h2 h1' h2' h3 h3' => ?_, fun h u C h1 h2 h3 => ?_, iv.lay⟩
  · refine (hk k (Nat.lt_of_lt_of_le h1 iv.size) (fun ho' => ?_)).trans (iv.old k h1 h2)
    rcases (iv.own i v B k hi hB ho').2 with h | h
    · omega
    · exact h2 h
  · rcases hF' b hb with hb | hb
    · exact Nat.lt_of_lt_of_le (iv.fb b hb) hsz
    · exact Nat.lt_of_lt_of_le ((iv.rep i v B hi hB).own_lt hb) hsz
  · rcases hF' b hb with hb | hb
    · exact iv.f1 b hb
    · exact .inr (iv.own i v B b hi hB hb).2
  · rcases split h1 h2 with ⟨e, a, b⟩ | ⟨rfl, rfl, rfl⟩
    · have hr0 := iv.rep h u C a b
      refine hr0.step hs (fun g hg => ?_) (fun g hg => hk g (hr0.own_lt hg) (fun ho' => e (iv.dis h i u v C B g a b hi hB hg ho')))
      rcases hst with hst | hst
      · exact .inl hst
      · by_cases hgi : g = i
        · exact absurd (hgi ▸ hg) (hst h u C a b e)
        · exact .inr hgi
    · exact hr
  · rcases split h1 h2 with ⟨e, a, b⟩ | ⟨rfl, rfl, rfl⟩
    · obtain ⟨hn, hu⟩ := iv.own h u C g a b h3
      refine ⟨fun hf => ?_, hu⟩
      rcases hF' g hf with hf | hf
      · exact hn hf
      · exact e (iv.dis h i u v C B g a b hi hB h3 hf)
    · obtain ⟨hn, hg⟩ := ho g h3
      refine ⟨hn, ?_⟩
      rcases hg with hg | hg
      · exact (iv.own h v B g hi hB hg).2
      · exact .inl (Nat.le_trans iv.size hg)
  · rcases split h1 h2 with ⟨e, a, b⟩ | ⟨rfl, rfl, rfl⟩ <;> rcases split h1' h2' with ⟨e', a', b'⟩ | ⟨rfl, rfl, rfl⟩
    · exact iv.dis h h' u u' C C' g a b a' b' h3 h3'
    · rcases (ho g h3').2 with hg | hg
      · exact absurd (iv.dis h h' u v C B g a b hi hB h3 hg) e
      · have := (iv.rep h u C a b).own_lt h3
        omega
    · rcases (ho g h3).2 with hg | hg
      · exact absurd (iv.dis h' h u' v C' B g a' b' hi hB h3' hg) e'
      · have := (iv.rep h' u' C' a' b').own_lt h3'
        omega
    · rfl
  · rcases split h1 h2 with ⟨_, a, b⟩ | ⟨rfl, rfl, rfl⟩
    · exact iv.pin h u C a b h3
    · obtain ⟨rfl, hb⟩ := hp h3
      exact iv.pin _ _ B hi hB hb
end
structure Rel (w0 : World) (U : U0) (S : St) (a : Act) (w : World) (F : Nat → Prop) (hv : List Value) : Prop where
  sz : a.tmps.size = S.n
  tm : ∀ (p : Nat × T), p ∈ S.t → RepT w F hv (a.tmps.getD p.1 undef) p.2
  df : a.defers = []
  iv : Inv w0 U w F hv S.H
theorem Rel.lk {w0 : World} {U : U0} {S : St} {a : Act} {w : World} {F : Nat → Prop} {hv : List Value} (h : Rel w0 U S a w F hv) (i : Nat) : RepT w F hv (a.tmps.getD i undef) (look S.t i) := by
  rcases look_mem S.t i with e | e
  · rw [e]; exact trivial
  · exact h.tm _ e
end Go.Proofs.YtcpimjekllkbkaaGreatDoor.E
namespace Go.Proofs.YtcpimjekllkbkaaGreatDoor.E
open Go.RowKit
/-! # 3. Operations that leave one's own blocks alone -/
def ofConst : Value → T
  | .bool x => .a (.c (.b x))
  | .int k n => .a (.c (.i k n))
  | .string x => .a (.c (.s x))
  | .slice none 0 0 => .a (.c .ns)
  | .pointer none => .a (.c .np)
  | _ => unT
def ev (ts : List (Nat × T)) : Operand → T
  | .tmp t => look ts t
  | .const v => ofConst v
  | .func f => .a (.c (.fn f []))
  | .global _ => unT
theorem ofConst_rep {w : World} {F : Nat → Prop} {hv : List Value} (v : Value) : RepT w F hv v (ofConst v) := by
  unfold ofConst
  split <;> first | rfl | trivial
theorem ev_rep {w0 : World} {U : U0} {S : St} {a : Act} {w : World} {F : Nat → Prop} {hv : List Value} (h : Rel w0 U S a w F hv) (o : Operand) : RepT w F hv (a.eval o) (ev S.t o) := by
  cases o with
  | tmp t => exact h.lk t
  | const v => exact ofConst_rep v
  | func f => exact ⟨[], rfl, trivial⟩
  | global g => exact trivial
structure Grows (w : World) (F : Nat → Prop) (w' : World) (F' : Nat → Prop) : Prop where
  os : w'.os = w.os
  tape : w'.tape = w.tape
  output : w'.output = w.output
  size : w.heap.size ≤ w'.heap.size
  block : ∀ k, k < w.heap.size → w'.heap[k]? = w.heap[k]?
  f : ∀ b, F b → F' b
  f' : ∀ b, F' b → F b ∨ w.heap.size ≤ b ∧ b < w'.heap.size
theorem Grows.refl (w : World) (F : Nat → Prop) : Grows w F w F := ⟨rfl, rfl, rfl, Nat.le_refl _, fun _ _ => rfl, fun _ h => h, fun _ h => .inl h⟩
theorem Inv.grows {w0 w w' : World} {U : U0} {F F' : Nat → Prop} {hv : List Value} {H : List Blk} (iv : Inv w0 U w F hv H) (g : Grows w F w' F') : Inv w0 U w' F' hv H :=
  iv.grow g.os g.tape g.output g.size g.block g.f g.f'
theorem Grows.step {w w' : World} {F F' : Nat → Prop} (g : Grows w F w' F') (hf : ∀ b, F b → b < w.heap.size) (hv : List Value) : Step w F hv w' F' hv (fun _ => True) := ⟨g.f, fun b hb => g.block b (hf b hb), fun _ _ _ h => h⟩
theorem Rel.grows {w0 w w' : World} {U : U0} {F F' : Nat → Prop} {hv : List Value} {S : St} {a : Act} (h : Rel w0 U S a w F hv) (g : Grows w F w' F') : Rel w0 U S a w' F' hv :=
  ⟨h.sz, fun p hp => (g.step h.iv.fb hv).t (fun _ _ => trivial) (h.tm p hp), h.df, h.iv.grows g⟩
def putT (S : St) (d : Option Tmp) (x : T) : St := match d with
  | some i => bif Nat.blt i S.n then ⟨S.n, insT S.t i x, S.H⟩ else S
  | none => S
theorem Rel.putT {w0 w : World} {U : U0} {F : Nat → Prop} {hv : List Value} {S : St} {a : Act} (h : Rel w0 U S a w F hv) {v : Value} {x : T} (hx : RepT w F hv v x) (d : Option Tmp) :
    Rel w0 U (putT S d x) (a.put d v) w F hv := by
  cases d with
  | none => exact h
  | some d =>
    simp only [E.putT, Act.put]
    cases e : Nat.blt d S.n with
    | true =>
      have hl : d < a.tmps.size := by rw [h.sz]; exact Nat.le_of_ble_eq_true e
      refine ⟨by simp [h.sz], fun p hp => ?_, h.df, h.iv⟩
      rcases mem_ins hp with rfl | ⟨hp, hne⟩
      · simp [hl]
        exact hx
      · have := h.tm p hp
        simpa [Array.getElem?_setIfInBounds_ne (Ne.symm hne)] using this
    | false =>
      have hl : a.tmps.size ≤ d := by rw [h.sz]; exact Nat.le_of_not_lt (fun hh => by rw [show Nat.blt d S.n = true from Nat.ble_eq_true_of_le hh] at e; cases e)
      refine ⟨by simp [h.sz], fun p hp => ?_, h.df, h.iv⟩
      have : a.tmps.setIfInBounds d v = a.tmps := by
        apply Array.ext_getElem?
        intro j
        by_cases e3 : d = j
        · subst e3; simp [Array.getElem?_eq_none hl, Array.getElem?_eq_none (show (a.tmps.setIfInBounds d v).size ≤ d by simpa using hl)]
        · exact Array.getElem?_setIfInBounds_ne e3
      simp only [this]
      exact h.tm p hp
section
variable {R : Type}
def pickK (x : Bool) (p q : T) (k : T → Option R) : Option R :=
  match p, q with
  | .a (.c (.b p')), .a (.c (.b q')) => k (.a (.c (.b (bif x then p' else q'))))
  | p, q => if x = true then k p else k q
/-- bits of two numbers of one kind -/
def bitsI (op : BinOp) (K : IntKind) (a b : Int) : Int :=
  let x := BitVec.ofInt K.bits a
  let y := BitVec.ofInt K.bits b
  K.wrap ((match op with | .and => x &&& y | .or => x ||| y | .xor => x ^^^ y | _ => x &&& ~~~y).toNat : Int)
def shlI (K : IntKind) (a b : Int) : Int := K.wrap (a * 2 ^ min b.toNat K.bits)
def shrI (K : IntKind) (a b : Int) : Int := a.fdiv (2 ^ min b.toNat K.bits)
def binII (op : BinOp) (K : IntKind) (a b : Int) (k : C → Option R) : Option R :=
  match op with
  | .add => k (.i K (K.wrap (a + b)))
  | .sub => k (.i K (K.wrap (a - b)))
  | .mul => k (.i K (K.wrap (a * b)))
  | .quo => if b = 0 then none else k (.i K (K.wrap (a.tdiv b)))
  | .rem => if b = 0 then none else k (.i K (a.tmod b))
  | .eql => k (.b (a == b))
  | .neq => k (.b (a != b))
  | .lss => k (.b (decide (a < b)))
  | .leq => k (.b (decide (a ≤ b)))
  | .gtr => k (.b (decide (a > b)))
  | .geq => k (.b (decide (a ≥ b)))
  | .and => k (.i K (bitsI .and K a b))
  | .or => k (.i K (bitsI .or K a b))
  | .xor => k (.i K (bitsI .xor K a b))
  | .andNot => k (.i K (bitsI .andNot K a b))
  | _ => none
def binXX (op : BinOp) (K K' : IntKind) (a b : Int) (k : C → Option R) : Option R :=
  match op with
  | .shl => if b < 0 then none else k (.i K (shlI K a b))
  | .shr => if b < 0 then none else k (.i K (shrI K a b))
  | op => if K = K' then binII op K a b k else none
def binSS (op : BinOp) (x y : ByteArray) (k : C → Option R) : Option R :=
  match op with
  | .add => if x.size + y.size ≤ 9223372036854775807 then k (.s (x ++ y)) else none
  | .eql => k (.b (x.toList == y.toList))
  | .neq => k (.b (!(x.toList == y.toList)))
  | .lss => k (.b (Op.bytesLess x.toList y.toList))
  | .leq => k (.b (Op.bytesLess x.toList y.toList || x.toList == y.toList))
  | .gtr => k (.b (!(Op.bytesLess x.toList y.toList || x.toList == y.toList)))
  | .geq => k (.b (!Op.bytesLess x.toList y.toList))
  | _ => none
def binBB (P : Program) (t : Nat) (op : BinOp) (x y : Bool) (k : C → Option R) : Option R :=
  match P.underlying t with
  | some .bool => match op with
    | .eql => k (.b (x == y))
    | .neq => k (.b (!(x == y)))
    | _ => none
  | _ => none
def isNp : C → Option Bool
  | .np => some true
  | .pt .. | .pe .. | .po .. | .pm .. => some false
  | _ => none
def binPP (P : Program) (t : Nat) (op : BinOp) (x y : C) (k : C → Option R) : Option R :=
  match P.underlying t with
  | some (.pointer _) => match isNp x, isNp y with
    | some a, some b => if a || b then match op with
      | .eql => k (.b (a && b))
      | .neq => k (.b (!(a && b)))
      | _ => none else none
    | _, _ => none
  | _ => none
/-- a slice against nil -/
def isNl : C → Option Bool
  | .ns => some true
  | .nz .. => some false
  | _ => none
def binLL (P : Program) (t : Nat) (op : BinOp) (x : C) (k : C → Option R) : Option R :=
  match P.underlying t, isNl x with
  | some (.slice _), some a => match op with
    | .eql => k (.b a)
    | .neq => k (.b (!a))
    | _ => none
  | _, _ => none
def binK (P : Program) (t : Nat) (op : BinOp) (x y : C) (k : C → Option R) : Option R :=
  match x, y with
  | .i K a, .i K' b => binXX op K K' a b k
  | .s x, .s y => binSS op x y k
  | .b x, .b y => binBB P t op x y k
  | x, .ns => binLL P t op x k
  | x, y => binPP P t op x y k
def unK (op : UnOp) (x : C) (k : C → Option R) : Option R :=
  match op, x with
  | .not, .b x => k (.b (!x))
  | .neg, .i K n => k (.i K (K.wrap (0 - n)))
  | _, _ => none
def convK (P : Program) (src dst : Nat) (x : C) (k : C → Option R) : Option R :=
  match P.underlying src, P.underlying dst, x with
  | some (.int _), some (.int K), .i _ n => k (.i K (K.wrap n))
  | some .string, some .string, .s x => k (.s x)
  | _, _, _ => none
variable {P : Program} {w : World} {F : Nat → Prop} {hv : List Value} {r : R}
theorem pickK_sound {x : Bool} {p q : T} {k : T → Option R} (h : pickK x p q k = some r) {vp vq : Value} (hp : RepT w F hv vp p) (hq : RepT w F hv vq q) : ∃ z, k z = some r ∧ RepT w F hv (if x then vp else vq) z := by
  have gen : ∀ (h : (if x = true then k p else k q) = some r), ∃ z, k z = some r ∧ RepT w F hv (if x then vp else vq) z := by
    intro h
    cases x
    · exact ⟨q, h, hq⟩
    · exact ⟨p, h, hp⟩
  unfold pickK at h
  split at h
  · refine ⟨_, h, ?_⟩
    have h1 : vp = _ := hp
    have h2 : vq = _ := hq
    subst h1 h2
    cases x <;> rfl
  · exact gen h
theorem binII_sound {op : BinOp} {K : IntKind} {a b : Int} {k : C → Option R} (h : binII op K a b k = some r) (t : Nat) (X Y : Operand) :
    ∃ c v, k c = some r ∧ RepC w F hv v c ∧ (do eqGuard op t X Y (.int K a) (.int K b); binOp op t (.int K a) (.int K b) : Sem Value).run P w = .ok v w := by
  cases op <;> simp only [binII] at h <;> first | (cases h; done) | skip
  all_goals first
    | (split at h; · cases h)
    | skip
  all_goals exact ⟨_, _, h, rfl, by simp_all [eqGuard, binOp, Op.intArith, Op.intDiv, Op.intCmp, Op.intBits, bitsI]⟩
theorem binXX_sound {op : BinOp} {K K' : IntKind} {a b : Int} {k : C → Option R} (h : binXX op K K' a b k = some r) (t : Nat) (X Y : Operand) :
    ∃ c v, k c = some r ∧ RepC w F hv v c ∧ (do eqGuard op t X Y (.int K a) (.int K' b); binOp op t (.int K a) (.int K' b) : Sem Value).run P w = .ok v w := by
  unfold binXX at h
  split at h
  · split at h
    · cases h
    · rename_i hb
      exact ⟨_, _, h, rfl, by simp [eqGuard, binOp, Op.shift, shlI, hb]⟩
  · split at h
    · cases h
    · rename_i hb
      exact ⟨_, _, h, rfl, by simp [eqGuard, binOp, Op.shift, shrI, hb]⟩
  · split at h
    · rename_i e
      subst e
      exact binII_sound h t X Y
    · cases h
theorem binSS_sound {op : BinOp} {x y : ByteArray} {k : C → Option R} (h : binSS op x y k = some r) (t : Nat) (X Y : Operand) :
    ∃ c v, k c = some r ∧ RepC w F hv v c ∧ (do eqGuard op t X Y (.string x) (.string y); binOp op t (.string x) (.string y) : Sem Value).run P w = .ok v w := by
  cases op <;> simp only [binSS] at h <;> first | (cases h; done) | skip
  case add =>
    split at h
    · rename_i hs
      have hm : IntKind.i64.max = 9223372036854775807 := by decide
      have : ¬ ((x.size + y.size : Nat) : Int) > IntKind.i64.max := by omega
      refine ⟨_, _, h, rfl, ?_⟩
      simp only [eqGuard, binOp, Op.stringOp, Bool.not_eq_true', if_neg this]
      rfl
    · cases h
  all_goals exact ⟨_, _, h, rfl, by simp [eqGuard, binOp, Op.stringOp]⟩
theorem guard_bin {op : BinOp} {t : Nat} {X Y : Operand} {vx vy : Value} (hg : ∀ w : World, (eqGuard op t X Y vx vy).run P w = .ok () w) (w : World) :
    (do eqGuard op t X Y vx vy; binOp op t vx vy : Sem Value).run P w = (binOp op t vx vy).run P w := by
  rw [Sem.run_bind, hg]
  rfl
theorem binBB_sound {op : BinOp} {x y : Bool} {k : C → Option R} {t : Nat} (h : binBB P t op x y k = some r) (X Y : Operand) :
    ∃ c v, k c = some r ∧ RepC w F hv v c ∧ (do eqGuard op t X Y (.bool x) (.bool y); binOp op t (.bool x) (.bool y) : Sem Value).run P w = .ok v w := by
  unfold binBB at h
  split at h
  · rename_i hu
    cases op <;> first | (cases h; done) | skip
    all_goals
      refine ⟨_, _, h, rfl, ?_⟩
      rw [guard_bin (fun w => by simp [eqGuard])]
      simp only [binOp, Sem.run_bind, run_equal_bool w t x y hu]
      rfl
  · cases h
theorem run_equalIn_nilp (d : Nat) (t : TypeId) {e : TypeId} (p : Option Addr) (h : P.underlying t = some (.pointer e)) : (Op.equalIn (d + 1) t (.pointer none) (.pointer p)).run P w = .ok p.isNone w := by
  cases p <;> simp [Op.equalIn, run_underlying h]
theorem run_equal_nil_pointer (t : TypeId) {e : TypeId} (p : Option Addr) (h : P.underlying t = some (.pointer e)) : (Op.equal t (.pointer none) (.pointer p)).run P w = .ok p.isNone w := run_equalIn_nilp 9999 t p h
theorem run_equalIn_pnil (d : Nat) (t : TypeId) {e : TypeId} (p : Option Addr) (h : P.underlying t = some (.pointer e)) : (Op.equalIn (d + 1) t (.pointer p) (.pointer none)).run P w = .ok p.isNone w := by
  cases p <;> simp [Op.equalIn, run_underlying h]
theorem run_equal_pointer_nil' (t : TypeId) {e : TypeId} (p : Option Addr) (h : P.underlying t = some (.pointer e)) : (Op.equal t (.pointer p) (.pointer none)).run P w = .ok p.isNone w := run_equalIn_pnil 9999 t p h
theorem isNp_rep {v : Value} {c : C} {b : Bool} (h : isNp c = some b) (hr : RepC w F hv v c) : ∃ p, v = .pointer p ∧ p.isNone = b := by
  cases c <;> simp only [isNp, Option.some.injEq, reduceCtorEq] at h <;> subst h
  · obtain ⟨g, _, rfl⟩ := hr; exact ⟨_, rfl, rfl⟩
  · obtain ⟨b, p, cs, rfl, _⟩ := hr; exact ⟨_, rfl, rfl⟩
  · obtain ⟨g, n, c, _, rfl⟩ := hr; exact ⟨_, rfl, rfl⟩
  · obtain ⟨l, g, _, _, rfl⟩ := hr; exact ⟨_, rfl, rfl⟩
  · exact ⟨none, hr, rfl⟩
theorem binPP_sound {op : BinOp} {x y : C} {k : C → Option R} {t : Nat} (h : binPP P t op x y k = some r) {vx vy : Value} (hx : RepC w F hv vx x) (hy : RepC w F hv vy y) (X Y : Operand) :
    ∃ c v, k c = some r ∧ RepC w F hv v c ∧ (do eqGuard op t X Y vx vy; binOp op t vx vy : Sem Value).run P w = .ok v w := by
  unfold binPP at h
  split at h
  · rename_i e hu
    split at h
    · rename_i a b ha hb
      obtain ⟨p, rfl, hp⟩ := isNp_rep ha hx
      obtain ⟨q, rfl, hq⟩ := isNp_rep hb hy
      split at h
      · rename_i hab
        have key : (Op.equal t (.pointer p) (.pointer q)).run P w = .ok (a && b) w := by
          cases p with
          | none => rw [run_equal_nil_pointer t q hu, hq, ← hp]; rfl
          | some p => cases q with
            | none => rw [run_equal_pointer_nil' t _ hu, hp, ← hq]; simp
            | some q => subst hp hq; simp at hab
        cases op <;> first | (cases h; done) | skip
        all_goals
          refine ⟨_, _, h, rfl, ?_⟩
          rw [guard_bin (fun w => by simp [eqGuard])]
          simp only [binOp, Sem.run_bind, key]
          rfl
      · cases h
    · cases h
  · cases h
theorem isNl_rep {v : Value} {c : C} {b : Bool} (h : isNl c = some b) (hr : RepC w F hv v c) : ∃ p n m, v = .slice p n m ∧ p.isNone = b := by
  cases c <;> simp only [isNl, Option.some.injEq, reduceCtorEq] at h <;> subst h
  · exact ⟨none, 0, 0, hr, rfl⟩
  · obtain ⟨_, a, n, m, rfl⟩ := hr; exact ⟨some a, n, m, rfl, rfl⟩
theorem binLL_sound {op : BinOp} {x : C} {k : C → Option R} {t : Nat} (h : binLL P t op x k = some r) {vx vy : Value} (hx : RepC w F hv vx x) (hy : RepC w F hv vy .ns) (X Y : Operand) :
    ∃ c v, k c = some r ∧ RepC w F hv v c ∧ (do eqGuard op t X Y vx vy; binOp op t vx vy : Sem Value).run P w = .ok v w := by
  unfold binLL at h
  split at h
  · rename_i e a hu ha
    obtain ⟨p, n, m, rfl, rfl⟩ := isNl_rep ha hx
    rw [show vy = _ from hy]
    cases op <;> first | (cases h; done) | skip
    · refine ⟨_, _, h, rfl, ?_⟩
      rw [guard_bin (fun w => by simp [eqGuard])]
      exact Lib.run_eql_slice_nil w t e p n m 0 0 hu
    · refine ⟨_, _, h, rfl, ?_⟩
      rw [guard_bin (fun w => by simp [eqGuard])]
      have := Lib.run_eql_slice_nil w t e p n m 0 0 hu
      simp only [binOp, Sem.run_bind] at this ⊢
      revert this
      generalize (Op.equal t (.slice p n m) (.slice none 0 0)).run P w = q
      intro this
      cases q with
      | ok b w1 =>
        simp only [Result.andThen_ok, Sem.run_pure, Result.ok.injEq, Value.bool.injEq] at this
        obtain ⟨rfl, rfl⟩ := this
        rfl
      | halt z w1 => simp [Result.andThen] at this
  · cases h
theorem binK_sound {op : BinOp} {x y : C} {k : C → Option R} {t : Nat} (h : binK P t op x y k = some r) {vx vy : Value} (hx : RepC w F hv vx x) (hy : RepC w F hv vy y) (X Y : Operand) :
    ∃ c v, k c = some r ∧ RepC w F hv v c ∧ (do eqGuard op t X Y vx vy; binOp op t vx vy : Sem Value).run P w = .ok v w := by
  unfold binK at h
  split at h
  · rw [show vx = _ from hx, show vy = _ from hy]; exact binXX_sound h t X Y
  · rw [show vx = _ from hx, show vy = _ from hy]; exact binSS_sound h t X Y
  · rw [show vx = _ from hx, show vy = _ from hy]; exact binBB_sound h X Y
  · exact binLL_sound h hx hy X Y
  · exact binPP_sound h hx hy X Y
theorem unK_sound {op : UnOp} {x : C} {k : C → Option R} (h : unK op x k = some r) {vx : Value} (hx : RepC w F hv vx x) : ∃ c v, k c = some r ∧ RepC w F hv v c ∧ (Op.unary op vx).run P w = .ok v w := by
  unfold unK at h
  split at h
  · rw [show vx = _ from hx]; exact ⟨_, _, h, rfl, rfl⟩
  · rw [show vx = _ from hx]; exact ⟨_, _, h, rfl, rfl⟩
  · cases h
theorem convK_sound {src dst : Nat} {x : C} {k : C → Option R} (h : convK P src dst x k = some r) {vx : Value} (hx : RepC w F hv vx x) : ∃ c v, k c = some r ∧ RepC w F hv v c ∧ (convert src dst vx).run P w = .ok v w := by
  unfold convK at h
  split at h
  · rename_i h1 h2
    rw [show vx = _ from hx]
    refine ⟨_, _, h, rfl, ?_⟩
    simp [convert, Sem.run_bind, run_underlying h1, run_underlying h2, Conv.intToInt]
  · rename_i h1 h2
    rw [show vx = _ from hx]
    refine ⟨_, _, h, rfl, ?_⟩
    simp [convert, Sem.run_bind, run_underlying h1, run_underlying h2]
  · cases h
end
end Go.Proofs.YtcpimjekllkbkaaGreatDoor.E
namespace Go.Proofs.YtcpimjekllkbkaaGreatDoor.E
open Go.RowKit
/-! # 4. Reading: fields, elements, loads, slices -/
section
variable {R : Type}
def isRowT (P : Program) (t : Nat) : Option Bool :=
  match P.underlying t with
  | some (.struct _) | some (.array _ _) => some true
  | some _ => some false
  | none => none
def loadC (P : Program) (t : Nat) (cs : List C) (k : T → Option R) : Option R :=
  match isRowT P t with
  | some true => match P.info? t with
    | some i => if i.size ≤ cs.length then k (.a (.ag (cs.take i.size))) else none
    | none => none
  | some false => match cs with
    | c :: _ => k (.a (.c c))
    | [] => none
  | none => none
def loadK (P : Program) (H : List Blk) (t : Nat) (x : C) (k : T → Option R) : Option R :=
  match x with
  | .pt h o => match H.getD h .gone with
    | .box _ _ cs => loadC P t (cs.drop o) k
    | _ => none
  | .pe ty d o => loadC P t ((enc ty d).drop o) k
  | .po h i sz o => match H.getD h .gone with
    | .arr _ ty l => if sz = ty.sz then (if i < l.length then loadC P t ((enc ty (l.getD i ty.z)).drop o) k else none) else none
    | _ => none
  | .pm h i o => match H.getD h .gone with
    | .mp (some _) kt vt l => if i < l.length then loadC P t ((enc vt (l.getD i (kt.z, vt.z)).2).drop o) k else none
    | _ => none
  | _ => none
def fieldOf (P : Program) (s f : Nat) : Option (Nat × Nat) :=
  match P.underlying s with
  | some (.struct fs) => match fs[f]? with
    | some fd => match P.info? fd.type with
      | some i => if i.size = 0 then none else some (fd.type, fd.offset)
      | none => none
    | none => none
  | _ => none
def fieldAddrK (P : Program) (s f : Nat) (x : C) (k : C → Option R) : Option R :=
  match fieldOf P s f with
  | some (_, off) => match x with
    | .pt h o => k (.pt h (o + off))
    | .pe ty d o => k (.pe ty d (o + off))
    | .po h i sz o => k (.po h i sz (o + off))
    | .pm h i o => k (.pm h i (o + off))
    | _ => none
  | none => none
def fieldK (P : Program) (s f : Nat) (x : A) (k : T → Option R) : Option R :=
  match fieldOf P s f with
  | some (t, off) => match x with
    | .ag cs => loadC P t (cs.drop off) k
    | _ => none
  | none => none
def elemOf (P : Program) (t : Nat) : Option (Nat × Nat) :=
  match P.underlying t with
  | some (.slice e) => match P.info? e with
    | some i => some (e, i.size)
    | none => none
  | _ => none
def indexAddrK (P : Program) (H : List Blk) (t : Nat) (x ix : C) (k : C → Option R) : Option R :=
  match elemOf P t, ix with
  | some (_, size), .i _ n =>
    match x with
    | .fz ty l => if size = ty.sz then (if 0 ≤ n ∧ n < l.length then k (.pe ty (l.getD n.toNat ty.z) 0) else none) else none
    | .ow h => match H.getD h .gone with
      | .arr _ ty l => if size = ty.sz then (if 0 ≤ n ∧ n < l.length then k (.po h n.toNat ty.sz 0) else none) else none
      | .fzd ty l => if size = ty.sz then (if 0 ≤ n ∧ n < l.length then k (.pe ty (l.getD n.toNat ty.z) 0) else none) else none
      | _ => none
    | _ => none
  | _, _ => none
def strsOf : List C → Option (List ByteArray)
  | [] => some []
  | .s x :: r => match strsOf r with
    | some l => some (x :: l)
    | none => none
  | _ => none
def intsOf (kd : IntKind) : List C → Option (List Int)
  | [] => some []
  | .i k x :: r => match intsOf kd r with
    | some l => if k = kd then some (x :: l) else none
    | none => none
  | _ => none
def kindOf : List C → IntKind
  | .i k _ :: _ => k
  | _ => .i64
def indexK (P : Program) (t : Nat) (x : A) (ix : C) (k : C → Option R) : Option R :=
  match ix with
  | .i _ n => match P.underlying t, x with
    | some .string, .c (.s s) => if 0 ≤ n then (if n < s.size then k (.i .u8 ((s.data.toList.getD n.toNat 0).toNat : Int)) else none) else none
    | some (.array len e), .ag cs => match isRowT P e, P.info? e, strsOf cs with
      | some false, some i, some l => if i.size = 1 then (if 0 ≤ n ∧ n < len ∧ n < l.length then k (.s (l.getD n.toNat ByteArray.empty)) else none) else none
      | some false, some i, none => match intsOf (kindOf cs) cs with
        | some l => if i.size = 1 then (if 0 ≤ n ∧ n < len ∧ n < l.length then k (.i (kindOf cs) (l.getD n.toNat 0)) else none) else none
        | none => none
      | _, _, _ => none
    | _, _ => none
  | _ => none
def extractK (x : T) (i : Nat) (k : T → Option R) : Option R :=
  match x with
  | .tu l => match l[i]? with
    | some z => k (.a z)
    | none => none
  | _ => none
def lenK (P : Program) (H : List Blk) (t : Nat) (x : C) (k : C → Option R) : Option R :=
  match P.underlying t, x with
  | some .string, .s s => k (.i .i64 (s.size : Int))
  | some (.slice _), .fz _ l => k (.i .i64 (l.length : Int))
  | some (.slice _), .ns => k (.i .i64 0)
  | some (.slice _), .ow h => match H.getD h .gone with
    | .arr _ _ l => k (.i .i64 (l.length : Int))
    | .fzd _ l => k (.i .i64 (l.length : Int))
    | _ => none
  | _, _ => none
/-- '==' of structs, part by part -/
def eqF (P : Program) (q : Nat → A → A → Option Bool) (xs ys : List C) : List Field → Option Bool
  | [] => some true
  | f :: fs => if f.name = "_" then none else match loadC P f.type (xs.drop f.offset) some, loadC P f.type (ys.drop f.offset) some with
    | some (.a u), some (.a v) => match q f.type u v, eqF P q xs ys fs with
      | some a, some b => some (a && b)
      | _, _ => none
    | _, _ => none
def eqT (P : Program) : Nat → Nat → A → A → Option Bool
  | 0, _, _, _ => none
  | d + 1, t, x, y => match P.underlying t with
    | some .bool => match x, y with
      | .c (.b a), .c (.b b) => some (a == b)
      | _, _ => none
    | some (.int _) => match x, y with
      | .c (.i K a), .c (.i K' b) => if K = K' then some (a == b) else none
      | _, _ => none
    | some .string => match x, y with
      | .c (.s a), .c (.s b) => some (a.toList == b.toList)
      | _, _ => none
    | some (.struct fs) => match x, y with
      | .ag xs, .ag ys => if P.stoodInHeld t = true then none else eqF P (eqT P d) xs ys fs.toList
      | _, _ => none
    | _ => none
def eqAK (P : Program) (t : Nat) (op : BinOp) (x y : A) (k : C → Option R) : Option R :=
  if P.eqGuardType P.depth t = true then none else match eqT P 12 t x y with
    | some b => match op with
      | .eql => k (.b b)
      | .neq => k (.b (!b))
      | _ => none
    | none => none
variable {P : Program} {w0 w : World} {U : U0} {F : Nat → Prop} {hv : List Value} {H : List Blk} {r : R}
theorem isRowT_spec {t : Nat} {b : Bool} (h : isRowT P t = some b) : ∃ d, P.underlying t = some d ∧ d.isRow = b := by
  unfold isRowT at h
  split at h
  · injection h with h; subst h; exact ⟨_, ‹_›, rfl⟩
  · injection h with h; subst h; exact ⟨_, ‹_›, rfl⟩
  · rename_i d h1 h2 hu
    injection h with h
    subst h
    refine ⟨_, hu, ?_⟩
    cases d <;> first | rfl | (exact (h1 _ rfl).elim) | (exact (h2 _ _ rfl).elim)
  · cases h
theorem loadC_part {t : Nat} {cl : List C} {k : T → Option R} (h : loadC P t cl k = some r) {cs : List Value} (hc : All2 (RepC w F hv) cs cl) :
    (∃ z i, k z = some r ∧ isRowT P t = some true ∧ P.info? t = some i ∧ i.size ≤ cs.length ∧ RepT w F hv (.agg (cs.take i.size).toArray) z) ∨ (∃ z v, k z = some r ∧ isRowT P t = some false ∧ cs[0]? = some v ∧ RepT w F hv v z) := by
  unfold loadC at h
  split at h
  · rename_i hr
    split at h
    · rename_i i hi
      split at h
      · rename_i hs
        exact .inl ⟨_, i, h, hr, hi, by rw [hc.len]; exact hs, ⟨_, rfl, by simpa using hc.take i.size⟩⟩
      · cases h
    · cases h
  · rename_i hr
    split at h
    · match cs, hc with
      | v :: cs, hc => exact .inr ⟨_, v, h, hr, rfl, hc.1⟩
    · cases h
  · cases h
theorem loadC_sound {t : Nat} {cl : List C} {k : T → Option R} (h : loadC P t cl k = some r) {cs : List Value} (hc : All2 (RepC w F hv) cs cl) {b p : Nat} (hr : w.rangeAt b p cs) :
    ∃ z v, k z = some r ∧ RepT w F hv v z ∧ (Instr.loadAt t (.pointer (some ⟨b, p, none⟩))).run P w = .ok v w := by
  rcases loadC_part h hc with ⟨z, i, hk, hrow, hi, hs, hz⟩ | ⟨z, v, hk, hrow, hv0, hz⟩
  · obtain ⟨d, hu, hd⟩ := isRowT_spec hrow
    refine ⟨z, _, hk, hz, run_loadAt_mid w b p t _ d (fun j v hv => ?_) hu hd (by simp [hi, Nat.min_eq_left hs])⟩
    exact hr j v (by rw [List.getElem?_take] at hv; split at hv; exact hv; cases hv)
  · obtain ⟨d, hu, hd⟩ := isRowT_spec hrow
    refine ⟨z, v, hk, hz, ?_⟩
    have hcell : w.cell? ⟨b, p, none⟩ = some v := by simpa using hr 0 v hv0
    have hagg : (isAgg t).run P w = .ok false w := by
      unfold isAgg
      rw [Sem.run_bind, run_underlying hu w]
      cases d <;> simp_all [TypeDesc.isRow]
    simp only [Instr.loadAt, Instr.sureAddr, Sem.run_bind, Sem.run_pure, Result.andThen_ok, loadVar, hagg]
    simp [load, Sem.run, hcell]
theorem Inv.box (iv : Inv w0 U w F hv H) {h : Nat} {g : Nat} {pn : Bool} {ty : Nat} {c : List C} (hg : hv[h]? = some (.pointer (some ⟨g, 0, none⟩))) (hH : H.getD h .gone = .box pn ty c) : H[h]? = some (.box pn ty c) ∧ ∃ cs, w.heap[g]? = some (.cells cs ty (0, 0)) ∧ All2 (RepC w F hv) cs.toList c := by
  have hB : H[h]? = some (.box pn ty c) := by
    rw [List.getD_eq_getElem?_getD] at hH
    cases e : H[h]? with
    | none => rw [e] at hH; cases hH
    | some B => rw [e] at hH; simp at hH; rw [hH]
  obtain ⟨g', cs, e, hb, hc⟩ := iv.rep h _ _ hg hB
  cases e
  exact ⟨hB, cs, hb, hc⟩
theorem getD_some {h : Nat} {B : Blk} (hH : H.getD h .gone = B) (hB : B ≠ .gone) : H[h]? = some B := by
  rw [List.getD_eq_getElem?_getD] at hH
  cases e : H[h]? with
  | none => rw [e] at hH; exact absurd hH.symm hB
  | some C => rw [e] at hH; simp at hH; rw [hH]
theorem range_of_block {b ty : Nat} {cs : Array Value} {fr : Nat × Nat} (h : w.heap[b]? = some (.cells cs ty fr)) (o : Nat) : w.rangeAt b o (cs.toList.drop o) := by
  intro j v hv
  rw [List.getElem?_drop] at hv
  simp [World.cell?, h]
  simpa using hv
/-- an own row's element, and where it lies -/
theorem Inv.arr (iv : Inv w0 U w F hv H) {h ty : Nat} {t : Ty} {l : List t.D} {v : Value} (hg : hv[h]? = some v) (hB : H[h]? = some (.arr ty t l)) {i : Nat} (hi : i < l.length) :
    ∃ g cap cur, v = .slice (some ⟨g, 0, none⟩) l.length cap ∧ w.heap[g]? = some (.cells cur ty (0, 0)) ∧ cur.size = cap * t.sz ∧ l.length ≤ cap ∧ ∃ cs, w.rangeAt g (i * t.sz) cs ∧ DRep w F t (l.getD i t.z) cs := by
  obtain ⟨xs, ⟨hl, hr⟩, hd⟩ := iv.rep h v _ hg hB
  rcases hr with ⟨rfl, h0⟩ | ⟨g, cap, cur, rfl, _, hb, hle, hcap, hcur, htk⟩
  · omega
  · refine ⟨g, cap, cur, rfl, hb, hcur, hle, _, fun j u hu => ?_, by simpa [List.getD_eq_getElem?_getD, hi] using DReps.at hi hd⟩
    rw [← htk] at hu
    rw [List.getElem?_take] at hu
    split at hu
    · rw [List.getElem?_drop, List.getElem?_take] at hu
      split at hu
      · have := range_of_block hb 0 (i * t.sz + j) u (by simpa using hu)
        simpa using this
      · cases hu
    · cases hu
theorem Inv.mpAt (iv : Inv w0 U w F hv H) {h i : Nat} {tl : Array Value} {g : Nat} (hg : hv[h]? = some (.tuple tl)) (hti : tl[i + 1]? = some (.pointer (some ⟨g, 0, none⟩))) {ty : Nat} {kt vt : Ty} {l : List (kt.D × vt.D)} (hB : H[h]? = some (.mp (some ty) kt vt l)) (hi : i < l.length) :
    ∃ cs, w.heap[g]? = some (.cells cs ty (0, 0)) ∧ DRep w F vt (l.getD i (kt.z, vt.z)).2 cs.toList := by
  obtain ⟨m, es, clock, ps, e, hm, hsz, hr, _, hps⟩ := iv.rep h _ _ hg hB
  injection e with e
  subst e
  have hie : i < es.size := by omega
  have h1 := (hr i es[i] l[i] (Array.getElem?_eq_getElem hie) (List.getElem?_eq_getElem hi)).2
  obtain ⟨hp, b, cs, hv1, hb, hd⟩ := h1
  have hti2 : ps[i]? = some (.pointer (some ⟨g, 0, none⟩)) := by simpa using hti
  rw [hti2, hv1] at hp
  injection hp with hp
  injection hp with hp
  injection hp with hp
  injection hp with hp
  subst hp
  refine ⟨cs, hb, ?_⟩
  rw [List.getD_eq_getElem?_getD, List.getElem?_eq_getElem hi]
  exact hd
theorem loadK_sound (iv : Inv w0 U w F hv H) {t : Nat} {x : C} {k : T → Option R} (h : loadK P H t x k = some r) {vx : Value} (hx : RepC w F hv vx x) :
    ∃ z v, k z = some r ∧ RepT w F hv v z ∧ (Instr.loadAt t vx).run P w = .ok v w := by
  unfold loadK at h
  split at h
  · obtain ⟨g, hg, rfl⟩ := hx
    split at h
    · rename_i hH
      obtain ⟨_, cs, hb, hc⟩ := iv.box hg hH
      exact loadC_sound h (hc.drop _) (range_of_block hb _)
    · cases h
  · rename_i ty d o
    obtain ⟨b, p, cs, rfl, hF, hra, hd⟩ := hx
    refine loadC_sound h ((enc_rep hd).drop o) (fun j v hv => ?_)
    rw [List.getElem?_drop] at hv
    have := hra (o + j) v hv
    simpa [Nat.add_assoc] using this
  · rename_i hh i sz o
    obtain ⟨g, n, c, hg, rfl⟩ := hx
    split at h
    · rename_i ty t' l hH
      split at h
      · rename_i hsz
        subst hsz
        split at h
        · rename_i hi
          obtain ⟨g', cap, cur, e, hb, hcur, hle, cs, hra, hd⟩ := iv.arr hg (getD_some hH (by simp)) hi
          cases e
          refine loadC_sound h ((enc_rep hd).drop o) (fun j v hv => ?_)
          rw [List.getElem?_drop] at hv
          have := hra (o + j) v hv
          simpa [Nat.add_assoc] using this
        · cases h
      · cases h
    · cases h
  · rename_i hh i o
    obtain ⟨tl, g, hg, hti, rfl⟩ := hx
    split at h
    · rename_i ty kt vt l hH
      split at h
      · rename_i hi
        obtain ⟨cs, hb, hd⟩ := iv.mpAt hg hti (getD_some hH (by simp)) hi
        exact loadC_sound h ((enc_rep hd).drop o) (range_of_block hb _)
      · cases h
    · cases h
  · cases h
theorem fieldOf_spec {s f t off : Nat} (h : fieldOf P s f = some (t, off)) : ∃ fs fd i, P.underlying s = some (.struct fs) ∧ fs[f]? = some fd ∧ P.info? fd.type = some i ∧ i.size ≠ 0 ∧ fd.type = t ∧ fd.offset = off := by
  unfold fieldOf at h
  split at h
  · rename_i fs hu
    split at h
    · rename_i fd hfd
      split at h
      · rename_i i hi
        split at h
        · cases h
        · rename_i h0
          injection h with h
          injection h with h1 h2
          exact ⟨fs, fd, i, hu, hfd, hi, h0, h1, h2⟩
      · cases h
    · cases h
  · cases h
theorem fieldAddrK_sound {s f : Nat} {x : C} {k : C → Option R} (h : fieldAddrK P s f x k = some r) {vx : Value} (hx : RepC w F hv vx x) :
    ∃ c v, k c = some r ∧ RepC w F hv v c ∧ (Instr.fieldAt s vx f).run P w = .ok v w := by
  unfold fieldAddrK at h
  split at h
  · rename_i t off hf
    obtain ⟨fs, fd, i, hu, hfd, hi, h0, rfl, rfl⟩ := fieldOf_spec hf
    have run : ∀ b o, (Instr.fieldAt s (.pointer (some ⟨b, o, none⟩)) f).run P w = .ok (.pointer (some ⟨b, o + fd.offset, none⟩)) w := by
      intro b o
      simp [Instr.fieldAt, Instr.sureAddr, fieldPlace, Sem.run_bind, run_underlying hu, hfd, sizeOf, typeInfo, hi, h0, Addr.add_mid]
    split at h
    · obtain ⟨g, hg, rfl⟩ := hx
      exact ⟨_, _, h, ⟨g, hg, rfl⟩, run _ _⟩
    · obtain ⟨b, p, cs, rfl, hF, hra, hd⟩ := hx
      exact ⟨_, _, h, ⟨b, p, cs, by rw [← Nat.add_assoc], hF, hra, hd⟩, run _ _⟩
    · obtain ⟨g, n, c, hg, rfl⟩ := hx
      exact ⟨_, _, h, ⟨g, n, c, hg, by rw [← Nat.add_assoc]⟩, run _ _⟩
    · obtain ⟨l, g, h1, h2, rfl⟩ := hx
      exact ⟨_, _, h, ⟨l, g, h1, h2, rfl⟩, run _ _⟩
    · cases h
  · cases h
theorem part_sound {t : Nat} {cl : List C} {k : T → Option R} {off : Nat} {cs : Array Value} (h : loadC P t (cl.drop off) k = some r) (hc : All2 (RepC w F hv) cs.toList cl) :
    ∃ z v, k z = some r ∧ RepT w F hv v z ∧ (part t cs off).run P w = .ok v w := by
  rcases loadC_part h (hc.drop off) with ⟨z, i, hk, hrow, hi, hs, hz⟩ | ⟨z, v, hk, hrow, hv0, hz⟩
  · obtain ⟨d, hu, hd⟩ := isRowT_spec hrow
    have hagg : (isAgg t).run P w = .ok true w := by
      unfold isAgg
      rw [Sem.run_bind, run_underlying hu w]
      cases d <;> simp_all [TypeDesc.isRow]
    refine ⟨z, .agg (cs.extract off (off + i.size)), hk, ?_, by simp [part, Sem.run_bind, hagg, sizeOf, typeInfo, hi]⟩
    have : (List.take i.size (List.drop off cs.toList)).toArray = cs.extract off (off + i.size) := by
      apply Array.toList_inj.1
      simp [Array.toList_extract, List.extract]
    rw [← this]
    exact hz
  · obtain ⟨d, hu, hd⟩ := isRowT_spec hrow
    have hagg : (isAgg t).run P w = .ok false w := by
      unfold isAgg
      rw [Sem.run_bind, run_underlying hu w]
      cases d <;> simp_all [TypeDesc.isRow]
    have : cs[off]? = some v := by rw [List.getElem?_drop] at hv0; simpa using hv0
    exact ⟨z, v, hk, hz, by simp [part, Sem.run_bind, hagg, this]⟩
theorem fieldK_sound {s f : Nat} {x : A} {k : T → Option R} (h : fieldK P s f x k = some r) {vx : Value} (hx : RepA w F hv vx x) :
    ∃ z v, k z = some r ∧ RepT w F hv v z ∧ (Instr.field s vx f).run P w = .ok v w := by
  unfold fieldK at h
  split at h
  · rename_i t off hf
    obtain ⟨fs, fd, i, hu, hfd, hi, h0, rfl, rfl⟩ := fieldOf_spec hf
    split at h
    · obtain ⟨cs, rfl, hc⟩ := hx
      obtain ⟨z, v, hk, hz, hr⟩ := part_sound h hc
      exact ⟨z, v, hk, hz, by simp [Instr.field, Sem.run_bind, run_underlying hu, hfd, asAgg, hr]⟩
    · cases h
  · cases h
theorem eqT_sound : ∀ (d D : Nat), d ≤ D → ∀ {t : Nat} {x y : A} {b : Bool}, eqT P d t x y = some b → ∀ {vx vy : Value}, RepA w F hv vx x → RepA w F hv vy y → (Op.equalIn D t vx vy).run P w = .ok b w
  | 0, _, _, _, _, _, _, h, _, _, _, _ => by cases h
  | d + 1, D, hD, t, x, y, b, h, vx, vy, hx, hy => by
    obtain ⟨D', rfl⟩ : ∃ D', D = D' + 1 := ⟨D - 1, by omega⟩
    simp only [eqT] at h
    split at h
    · rename_i hu
      split at h
      · injection h with h
        subst h
        rw [show vx = _ from hx, show vy = _ from hy]
        exact run_equalIn_bool w D' t _ _ hu
      · cases h
    · rename_i k hu
      split at h
      · split at h
        · rename_i hk
          subst hk
          injection h with h
          subst h
          rw [show vx = _ from hx, show vy = _ from hy]
          exact run_equalIn_int w D' t _ k _ _ hu
        · cases h
      · cases h
    · rename_i hu
      split at h
      · injection h with h
        subst h
        rw [show vx = _ from hx, show vy = _ from hy]
        exact run_equalIn_string w D' t _ _ hu
      · cases h
    · rename_i fs hu
      split at h
      · rename_i xs ys
        split at h
        · cases h
        · rename_i hp
          obtain ⟨cs, rfl, hcs⟩ := hx
          obtain ⟨ds, rfl, hds⟩ := hy
          have hfo : P.fieldsOf t = fs := by unfold Program.fieldsOf; rw [hu]
          rw [run_equalIn_struct w D' t cs ds (by rw [hfo]; exact hu) (by simpa using hp), hfo]
          have key : ∀ (l : List Field) (b : Bool), eqF P (eqT P d) xs ys l = some b → (Op.eqFields D' cs ds l).run P w = .ok b w := by
            intro l
            induction l with
            | nil => intro b h; simp only [eqF, Option.some.injEq] at h; subst h; rfl
            | cons f l ih =>
              intro b h
              simp only [eqF] at h
              split at h
              · cases h
              · rename_i hn
                split at h
                · rename_i u v hlu hlv
                  split at h
                  · rename_i a c ha hc
                    injection h with h
                    subst h
                    obtain ⟨z1, v1, e1, r1, p1⟩ := part_sound hlu hcs
                    obtain ⟨z2, v2, e2, r2, p2⟩ := part_sound hlv hds
                    injection e1 with e1
                    injection e2 with e2
                    subst e1 e2
                    have hq := eqT_sound d D' (by omega) ha r1 r2
                    simp only [Op.eqFields, if_pos hn, Sem.run_bind, p1, p2, hq, Result.andThen_ok]
                    cases a with
                    | false => simp
                    | true => simpa using ih c hc
                  · cases h
                · cases h
          exact key _ _ h
      · cases h
    · cases h
theorem eqAK_sound {t : Nat} {op : BinOp} {x y : A} {k : C → Option R} (h : eqAK P t op x y k = some r) {vx vy : Value} (hx : RepA w F hv vx x) (hy : RepA w F hv vy y) (hag : (∃ l, x = .ag l) ∧ ∃ l, y = .ag l) (X Y : Operand) :
    ∃ c v, k c = some r ∧ RepC w F hv v c ∧ (do eqGuard op t X Y vx vy; binOp op t vx vy : Sem Value).run P w = .ok v w := by
  unfold eqAK at h
  split at h
  · cases h
  · rename_i hg
    split at h
    · rename_i b hb
      have hq := eqT_sound 12 10000 (by decide) hb hx hy
      obtain ⟨⟨l, rfl⟩, ⟨m, rfl⟩⟩ := hag
      obtain ⟨cs, rfl, _⟩ := hx
      obtain ⟨ds, rfl, _⟩ := hy
      have hgd := fun w => run_eqGuard_agg (P := P) w op t X Y cs ds (by simpa using hg)
      cases op <;> first | (cases h; done) | skip
      · exact ⟨_, _, h, rfl, by rw [guard_bin hgd, run_eql_struct, hq]; rfl⟩
      · exact ⟨_, _, h, rfl, by rw [guard_bin hgd, run_neq_struct, hq]; rfl⟩
    · cases h
end
end Go.Proofs.YtcpimjekllkbkaaGreatDoor.E
namespace Go.Proofs.YtcpimjekllkbkaaGreatDoor.E
open Go.RowKit
section
variable {R : Type}
def bndK (x : Option C) (d m : Nat) (k : Nat → Option R) : Option R :=
  match x with
  | none => k d
  | some (.i _ n) => if 0 ≤ n ∧ n ≤ (m : Int) then k n.toNat else none
  | some _ => none
def sliceK (P : Program) (H : List Blk) (t : Nat) (x : C) (lo hi : Option C) (k : C → Option R) : Option R :=
  match P.underlying t, x with
  | some .string, .s s => bndK hi s.size s.size fun h => bndK lo 0 h fun l => k (.s (s.extract l h))
  | some (.slice _), .fz ty xs => match elemOf P t with
    | some (_, size) => if size = ty.sz then bndK hi xs.length xs.length fun h => bndK lo 0 h fun l => k (.fz ty ((xs.take h).drop l)) else none
    | none => none
  | some (.slice _), .ow g => match elemOf P t, H.getD g .gone with
    | some (_, size), .fzd ty xs => if size = ty.sz then bndK hi xs.length xs.length fun h => bndK lo 0 h fun l => k (.fz ty ((xs.take h).drop l)) else none
    | _, _ => none
  | _, _ => none
variable {P : Program} {w0 w : World} {U : U0} {F : Nat → Prop} {hv : List Value} {H : List Blk} {r : R}
theorem elemOf_spec {t e size : Nat} (h : elemOf P t = some (e, size)) : ∃ i, P.underlying t = some (.slice e) ∧ P.info? e = some i ∧ i.size = size := by
  unfold elemOf at h
  split at h
  · rename_i e' hu
    split at h
    · rename_i i hi
      injection h with h
      injection h with h1 h2
      subst h1
      exact ⟨i, hu, hi, h2⟩
    · cases h
  · cases h
theorem indexAt_run {t e : Nat} {i : TypeInfo} (hu : P.underlying t = some (.slice e)) (hi : P.info? e = some i) {b o len cap : Nat} {K : IntKind} {n : Int} (hn : 0 ≤ n ∧ n < len) :
    (Instr.indexAt t (.slice (some ⟨b, o, none⟩) len cap) (.int K n)).run P w = .ok (.pointer (some ⟨b, o + n.toNat * i.size, none⟩)) w := by
  simp [Instr.indexAt, asIntOf, Sem.run_bind, run_underlying hu, hn.1, hn.2, sizeOf, typeInfo, hi, Addr.add_mid]
theorem fz_index {t e : Nat} {i : TypeInfo} (hu : P.underlying t = some (.slice e)) (hi : P.info? e = some i) {ty : Ty} (hs : i.size = ty.sz) {l : List ty.D} {v : Value} (hx : DRep w F (.sl ty) l [v]) {K : IntKind} {n : Int} (hn : 0 ≤ n ∧ n < l.length) :
    ∃ u, RepC w F hv u (.pe ty (l.getD n.toNat ty.z) 0) ∧ (Instr.indexAt t v (.int K n)).run P w = .ok u w := by
  obtain ⟨ad, c, e1, hle, hr⟩ := hx
  injection e1 with e1
  subst e1
  have hlt : n.toNat < l.length := by omega
  obtain ⟨b, o, cs, rfl, hF, hra, hd⟩ := hr n.toNat hlt
  refine ⟨_, ⟨b, o + n.toNat * ty.sz, cs, rfl, hF, hra, ?_⟩, by rw [indexAt_run hu hi hn, hs, Nat.add_zero]⟩
  simpa [List.getD_eq_getElem?_getD, hlt] using hd
theorem indexAddrK_sound (iv : Inv w0 U w F hv H) {t : Nat} {x ix : C} {k : C → Option R} (h : indexAddrK P H t x ix k = some r) {vx vi : Value} (hx : RepC w F hv vx x) (hi : RepC w F hv vi ix) :
    ∃ c v, k c = some r ∧ RepC w F hv v c ∧ (Instr.indexAt t vx vi).run P w = .ok v w := by
  unfold indexAddrK at h
  split at h
  · rename_i e size K n he
    obtain ⟨i, hu, hie, rfl⟩ := elemOf_spec he
    rw [show vi = _ from hi]
    split at h
    · split at h
      · rename_i hs
        split at h
        · rename_i hn
          obtain ⟨u, h1, h2⟩ := fz_index (hv := hv) hu hie hs hx (K := K) hn
          exact ⟨_, u, h, h1, h2⟩
        · cases h
      · cases h
    · rename_i g
      obtain ⟨hg, ad, m, c, rfl⟩ := hx
      split at h
      · rename_i ty t' l hH
        split at h
        · rename_i hs
          split at h
          · rename_i hn
            have hlt : n.toNat < l.length := by omega
            obtain ⟨b, cap, cur, e1, hb, _⟩ := iv.arr hg (getD_some hH (by simp)) hlt
            injection e1 with e1 e2 e3
            subst e1 e2 e3
            refine ⟨_, _, h, ⟨b, _, _, hg, rfl⟩, ?_⟩
            rw [indexAt_run hu hie hn, hs]
            simp
          · cases h
        · cases h
      · rename_i ty l hH
        split at h
        · rename_i hs
          split at h
          · rename_i hn
            obtain ⟨u, h1, h2⟩ := fz_index (hv := hv) hu hie hs (iv.rep g _ _ hg (getD_some hH (by simp))) (K := K) hn
            exact ⟨_, u, h, h1, h2⟩
          · cases h
        · cases h
      · cases h
    · cases h
  · cases h
theorem strsOf_spec : ∀ {cl : List C} {l : List ByteArray}, strsOf cl = some l → ∀ {cs : List Value}, All2 (RepC w F hv) cs cl → cs = l.map Value.string
  | [], l, h, cs, hc => by
    simp only [strsOf, Option.some.injEq] at h
    subst h
    match cs, hc with
    | [], _ => rfl
  | c :: cl, l, h, cs, hc => by
    unfold strsOf at h
    split at h
    · rename_i heq
      cases heq
    · rename_i heq
      injection heq with h1 h2
      subst h1 h2
      split at h
      · rename_i l' hl'
        injection h with h
        subst h
        match cs, hc with
        | v :: cs, hc => rw [strsOf_spec hl' hc.2, show v = _ from hc.1]; rfl
      · cases h
    · cases h
theorem intsOf_spec {kd : IntKind} : ∀ {cl : List C} {l : List Int}, intsOf kd cl = some l → ∀ {cs : List Value}, All2 (RepC w F hv) cs cl → cs = l.map (Value.int kd)
  | [], l, h, cs, hc => by
    simp only [intsOf, Option.some.injEq] at h
    subst h
    match cs, hc with
    | [], _ => rfl
  | c :: cl, l, h, cs, hc => by
    unfold intsOf at h
    split at h
    · rename_i heq
      cases heq
    · rename_i heq
      injection heq with h1 h2
      subst h1 h2
      split at h
      · rename_i l' hl'
        split at h
        · rename_i hk
          subst hk
          injection h with h
          subst h
          match cs, hc with
          | v :: cs, hc => rw [intsOf_spec hl' hc.2, show v = _ from hc.1]; rfl
        · cases h
      · cases h
    · cases h
theorem indexK_sound {t : Nat} {x : A} {ix : C} {k : C → Option R} (h : indexK P t x ix k = some r) {vx vi : Value} (hx : RepA w F hv vx x) (hi : RepC w F hv vi ix) :
    ∃ c v, k c = some r ∧ RepC w F hv v c ∧ (Instr.index t vx vi).run P w = .ok v w := by
  unfold indexK at h
  split at h
  · rename_i K n
    rw [show vi = _ from hi]
    split at h
    · rename_i s hu
      rw [show vx = _ from hx]
      split at h
      · rename_i h0
        split at h
        · rename_i h1
          have hlt : n.toNat < s.size := by omega
          have hlt' : n.toNat < s.data.size := hlt
          refine ⟨_, _, h, rfl, ?_⟩
          have e : (s.data.toList.getD n.toNat 0) = s[n.toNat]'hlt := by
            rw [List.getD_eq_getElem?_getD, Array.getElem?_toList, Array.getElem?_eq_getElem hlt']
            rfl
          rw [e]
          simp [Instr.index, asIntOf, Sem.run_bind, run_underlying hu, h0, hlt]
        · cases h
      · cases h
    · rename_i len e cs hu
      split at h
      · rename_i i l hrow hie hst
        split at h
        · rename_i hs
          split at h
          · rename_i hn
            obtain ⟨h0, h1, h2⟩ := hn
            obtain ⟨vs, rfl, hc⟩ := hx
            have hvs := strsOf_spec hst hc
            obtain ⟨d, hu2, hd⟩ := isRowT_spec hrow
            have hagg : (isAgg e).run P w = .ok false w := by
              unfold isAgg
              rw [Sem.run_bind, run_underlying hu2 w]
              cases d <;> simp_all [TypeDesc.isRow]
            have hlt : n.toNat < l.length := by omega
            have hget : vs[n.toNat]? = some (.string (l.getD n.toNat ByteArray.empty)) := by
              rw [← Array.getElem?_toList, hvs, List.getElem?_map, List.getD_eq_getElem?_getD, List.getElem?_eq_getElem hlt]
              rfl
            refine ⟨_, _, h, rfl, ?_⟩
            simp [Instr.index, asIntOf, Sem.run_bind, run_underlying hu, h0, h1, sizeOf, typeInfo, hie, hs, part, hagg, hget]
          · cases h
        · cases h
      · rename_i i hrow hie hst
        split at h
        case h_2 => cases h
        rename_i l hst2
        split at h
        · rename_i hs
          split at h
          · rename_i hn
            obtain ⟨h0, h1, h2⟩ := hn
            obtain ⟨vs, rfl, hc⟩ := hx
            have hvs := intsOf_spec hst2 hc
            obtain ⟨d, hu2, hd⟩ := isRowT_spec hrow
            have hagg : (isAgg e).run P w = .ok false w := by
              unfold isAgg
              rw [Sem.run_bind, run_underlying hu2 w]
              cases d <;> simp_all [TypeDesc.isRow]
            have hlt : n.toNat < l.length := by omega
            have hget : vs[n.toNat]? = some (.int (kindOf cs) (l.getD n.toNat 0)) := by
              rw [← Array.getElem?_toList, hvs, List.getElem?_map, List.getD_eq_getElem?_getD, List.getElem?_eq_getElem hlt]
              rfl
            refine ⟨_, _, h, rfl, ?_⟩
            simp [Instr.index, asIntOf, Sem.run_bind, run_underlying hu, h0, h1, sizeOf, typeInfo, hie, hs, part, hagg, hget]
          · cases h
        · cases h
      · cases h
    · cases h
  · cases h
theorem extractK_sound {x : T} {i : Nat} {k : T → Option R} (h : extractK x i k = some r) {vx : Value} (hx : RepT w F hv vx x) :
    ∃ z v, k z = some r ∧ RepT w F hv v z ∧ (Instr.extract vx i).run P w = .ok v w := by
  unfold extractK at h
  split at h
  · split at h
    · rename_i z hz
      obtain ⟨vs, rfl, hl⟩ := hx
      obtain ⟨v, hv1, hv2⟩ := hl.get hz
      have : vs[i]? = some v := by simpa using hv1
      exact ⟨_, v, h, hv2, by simp [Instr.extract, this]⟩
    · cases h
  · cases h
theorem lenK_sound (iv : Inv w0 U w F hv H) {t : Nat} {x : C} {k : C → Option R} (h : lenK P H t x k = some r) {vx : Value} (hx : RepC w F hv vx x) (ty : Nat) :
    ∃ c v, k c = some r ∧ RepC w F hv v c ∧ (Builtin.len_ #[t] ty #[vx]).run P w = .ok v w := by
  unfold lenK at h
  split at h
  · rename_i hu
    rw [show vx = _ from hx]
    exact ⟨_, _, h, rfl, by simp [Builtin.len_, Sem.run_bind, run_underlying hu, goInt]⟩
  · rename_i hu
    obtain ⟨ad, c, e1, _⟩ := hx
    injection e1 with e1
    subst e1
    exact ⟨_, _, h, rfl, by simp [Builtin.len_, Sem.run_bind, run_underlying hu, goInt]⟩
  · rename_i hu
    rw [show vx = _ from hx]
    exact ⟨_, _, h, rfl, by simp [Builtin.len_, Sem.run_bind, run_underlying hu, goInt]⟩
  · rename_i hu
    obtain ⟨hg, ad, m, c, rfl⟩ := hx
    split at h
    · rename_i ty' t' l hH
      have hr := iv.rep _ _ _ hg (getD_some hH (by simp))
      obtain ⟨xs, ⟨_, hr⟩, _⟩ := hr
      have hm : m = l.length := by
        rcases hr with ⟨e1, e2⟩ | ⟨g, cap, cur, e1, _⟩
        · injection e1 with _ e1 _; rw [e1, e2]
        · injection e1 with _ e1 _
      subst hm
      exact ⟨_, _, h, rfl, by simp [Builtin.len_, Sem.run_bind, run_underlying hu, goInt]⟩
    · rename_i t' l hH
      obtain ⟨ad', c', e1, _⟩ := iv.rep _ _ _ hg (getD_some hH (by simp))
      injection e1 with e1
      injection e1 with _ e1 _
      subst e1
      exact ⟨_, _, h, rfl, by simp [Builtin.len_, Sem.run_bind, run_underlying hu, goInt]⟩
    · cases h
  · cases h
def OptRep (w : World) (F : Nat → Prop) (hv : List Value) (x : Option C) (vx : Option Value) : Prop := match x, vx with | none, none => True | some c, some v => RepC w F hv v c | _, _ => False
theorem sliceBound_run {K : IntKind} {q : Int} {m : Nat} (h0 : 0 ≤ q) (h1 : q ≤ (m : Int)) (code : BoundsCode) : (Instr.sliceBound (.int K q) m code).run P w = .ok q.toNat w := by
  simp [Instr.sliceBound, asIntOf, h0, h1]
theorem bndK_sound {x : Option C} {d m : Nat} {k : Nat → Option R} (h : bndK x d m k = some r) {vx : Option Value} (hx : OptRep w F hv x vx) :
    ∃ n, k n = some r ∧ ((x = none ∧ vx = none ∧ n = d) ∨ ∃ K q, vx = some (.int K q) ∧ 0 ≤ q ∧ q ≤ (m : Int) ∧ n = q.toNat) := by
  cases x with
  | none =>
    cases vx with
    | none => exact ⟨d, h, .inl ⟨rfl, rfl, rfl⟩⟩
    | some v => exact hx.elim
  | some c =>
    cases vx with
    | none => exact hx.elim
    | some v =>
      cases c with
      | i K n =>
        simp only [bndK] at h
        by_cases hn : 0 ≤ n ∧ n ≤ (m : Int)
        · rw [if_pos hn] at h
          exact ⟨_, h, .inr ⟨K, n, by rw [show v = _ from hx], hn.1, hn.2, rfl⟩⟩
        · rw [if_neg hn] at h
          cases h
      | _ => simp [bndK] at h
theorem bounds_sound {lo hi : Option C} {n : Nat} {k : Nat → Nat → Option R} (h : bndK hi n n (fun h => bndK lo 0 h fun l => k l h) = some r) {vlo vhi : Option Value} (hlo : OptRep w F hv lo vlo) (hhi : OptRep w F hv hi vhi) (isS : Bool) (cap : Nat) (hc : n ≤ cap) :
    ∃ l h, k l h = some r ∧ l ≤ h ∧ h ≤ n ∧ (Instr.sliceBounds isS n cap vlo vhi none).run P w = .ok (l, h, cap) w := by
  obtain ⟨hh, h1, e1⟩ := bndK_sound (w := w) h hhi
  obtain ⟨ll, h2, e2⟩ := bndK_sound (w := w) h1 hlo
  have hhn : hh ≤ n := by
    rcases e1 with ⟨_, _, rfl⟩ | ⟨_, q, _, h0, h, rfl⟩
    · exact Nat.le_refl _
    · omega
  have hl : ll ≤ hh := by
    rcases e2 with ⟨_, _, rfl⟩ | ⟨_, q, _, h0, h, rfl⟩
    · exact Nat.zero_le _
    · omega
  refine ⟨ll, hh, h2, hl, hhn, ?_⟩
  rcases e1 with ⟨_, rfl, rfl⟩ | ⟨K, q, rfl, h0, hq, rfl⟩ <;> rcases e2 with ⟨_, rfl, rfl⟩ | ⟨K', q', rfl, h0', hq', rfl⟩
  · simp [Instr.sliceBounds]
  · simp [Instr.sliceBounds, Sem.run_bind, sliceBound_run h0' hq']
  · simp [Instr.sliceBounds, Sem.run_bind, sliceBound_run h0 (show q ≤ (cap : Int) by omega)]
  · simp [Instr.sliceBounds, Sem.run_bind, sliceBound_run h0 (show q ≤ (cap : Int) by omega), sliceBound_run h0' hq']
theorem Rows.part {α : Type} {Rr : α → List Value → Prop} {sz : Nat} {ad : Option Addr} {l : List α} (h : Rows w F Rr sz ad l) (a b : Nat) (hab : a ≤ b) (hb : b ≤ l.length) (c : Nat) (hc : l.length ≤ c) :
    Rows w F Rr sz (if c = a then ad else ad.map (·.add (a * sz))) ((l.take b).drop a) := by
  intro i hi
  simp only [List.length_drop, List.length_take] at hi
  have hlt : a + i < l.length := by omega
  obtain ⟨bl, o, cs, rfl, hF, hra, hd⟩ := h (a + i) hlt
  have hne : c ≠ a := by omega
  rw [if_neg hne]
  refine ⟨bl, o + a * sz, cs, by simp [Addr.add_mid], hF, ?_, ?_⟩
  · have : o + a * sz + i * sz = o + (a + i) * sz := by rw [Nat.add_mul]; omega
    rw [this]
    exact hra
  · simp only [List.getElem_drop, List.getElem_take]
    exact hd
theorem fz_slice {t e : Nat} {i : TypeInfo} (hu : P.underlying t = some (.slice e)) (hi : P.info? e = some i) {ty : Ty} (hs : i.size = ty.sz) {xs : List ty.D} {v : Value} (hx : DRep w F (.sl ty) xs [v]) {lo hi' : Option C} {k : C → Option R}
    (h : bndK hi' xs.length xs.length (fun h => bndK lo 0 h fun l => k (.fz ty ((xs.take h).drop l))) = some r) {vlo vhi : Option Value} (hlo : OptRep w F hv lo vlo) (hhi : OptRep w F hv hi' vhi) :
    ∃ c u, k c = some r ∧ RepC w F hv u c ∧ (Instr.sliceAt t v vlo vhi none).run P w = .ok u w := by
  obtain ⟨ad, c, e1, ⟨hle, hnil⟩, hr⟩ := hx
  injection e1 with e1
  subst e1
  obtain ⟨l, h', hk, hlh, hhn, hrun⟩ := bounds_sound (P := P) h hlo hhi true c hle
  refine ⟨_, _, hk, ⟨if c = l then ad else ad.map (·.add (l * ty.sz)), c - l, rfl, ⟨by simp; omega, fun he => ?_⟩, ?_⟩, ?_⟩
  · have : ad = none := by
      split at he
      · exact he
      · simpa using he
    have := hnil this
    omega
  · exact hr.part l h' hlh hhn c hle
  · have : ((xs.take h').drop l).length = h' - l := by simp; omega
    simp [Instr.sliceAt, Instr.slice, Sem.run_bind, run_underlying hu, hrun, sizeOf, typeInfo, hi, hs]
    omega
theorem sliceK_sound (iv : Inv w0 U w F hv H) {t : Nat} {x : C} {lo hi : Option C} {k : C → Option R} (h : sliceK P H t x lo hi k = some r) {vx : Value} (hx : RepC w F hv vx x) {vlo vhi : Option Value} (hlo : OptRep w F hv lo vlo) (hhi : OptRep w F hv hi vhi) :
    ∃ c v, k c = some r ∧ RepC w F hv v c ∧ (Instr.sliceAt t vx vlo vhi none).run P w = .ok v w := by
  unfold sliceK at h
  split at h
  · rename_i s hu
    rw [show vx = _ from hx]
    obtain ⟨l, h', hk, _, _, hrun⟩ := bounds_sound (P := P) h hlo hhi false s.size (Nat.le_refl _)
    exact ⟨_, _, hk, rfl, by simp [Instr.sliceAt, Instr.slice, Sem.run_bind, run_underlying hu, hrun]⟩
  · split at h
    · rename_i e size he
      obtain ⟨i, hu, hie, rfl⟩ := elemOf_spec he
      split at h
      · exact fz_slice hu hie ‹_› hx h hlo hhi
      · cases h
    · cases h
  · rename_i g _
    obtain ⟨hg, _⟩ := hx
    split at h
    · rename_i e size ty xs he hH
      obtain ⟨i, hu, hie, rfl⟩ := elemOf_spec he
      split at h
      · exact fz_slice hu hie ‹_› (iv.rep g _ _ hg (getD_some hH (by simp))) h hlo hhi
      · cases h
    · cases h
  · cases h
end
end Go.Proofs.YtcpimjekllkbkaaGreatDoor.E
namespace Go.Proofs.YtcpimjekllkbkaaGreatDoor.E
open Go.RowKit
/-! # 5. Making and writing -/
def tysOf (f : Nat → Option Ty) : List Nat → Option Ty
  | [] => some .un
  | t :: r => match f t, tysOf f r with
    | some a, some b => some (.pr a b)
    | _, _ => none
def tyOf (P : Program) : Nat → Nat → Option Ty
  | 0, _ => none
  | d + 1, t => match P.underlying t with
    | some .bool => some .bool
    | some (.int k) => some (.int k)
    | some .string => some .str
    | some (.slice e) => match tyOf P d e with
      | some x => some (.sl x)
      | none => none
    | some (.struct fs) => tysOf (tyOf P d) (fs.toList.map (·.type))
    | _ => none
/-- the element type of a slice type, its data, its bytes -/
def elemTy (P : Program) (t : Nat) : Option (Nat × Ty × Nat) :=
  match P.underlying t with
  | some (.slice e) => match tyOf P 12 e, P.info? e with
    | some ty, some i => match i.zero with
      | some z => if i.size = ty.sz ∧ 0 < ty.sz ∧ z.cells.size = ty.sz then some (e, ty, i.bytes) else none
      | none => none
    | _, _ => none
  | _ => none
def slots (P : Program) : Nat → Nat → List (Option (Nat × Ty))
  | 0, _ => []
  | d + 1, t => match P.underlying t with
    | some (.slice _) => match elemTy P t with
      | some (e, ty, _) => [some (e, ty)]
      | none => [none]
    | some (.struct fs) => (fs.toList.map (fun f => slots P d f.type)).flatten
    | some (.array n e) => (List.replicate n (slots P d e)).flatten
    | _ => [none]
/-- nil slices become rows of one's own -/
def intern : List (Option (Nat × Ty)) → List C → List Blk → List C × List Blk
  | some (e, t) :: ss, c :: cs, H => match c with
    | .ns => match intern ss cs (H ++ [.arr e t []]) with
      | (cs', H') => (.ow H.length :: cs', H')
    | c => match intern ss cs H with
      | (cs', H') => (c :: cs', H')
  | none :: ss, c :: cs, H => match intern ss cs H with
    | (cs', H') => (c :: cs', H')
  | _, cs, H => (cs, H)
section
variable {P : Program} {w0 w w' : World} {U : U0} {F F' : Nat → Prop} {hv : List Value} {H : List Blk}
theorem Step.ext (hv ext : List Value) : Step w F hv w F (hv ++ ext) (fun _ => True) :=
  ⟨fun _ h => h, fun _ _ => rfl, fun h _ u hu => by rw [List.getElem?_append_left (List.getElem?_eq_some_iff.1 hu).1]; exact hu⟩
theorem nil_own (w : World) (e size : Nat) : w.ownsRow 0 e size (.slice none 0 0) 0 [] := ⟨by simp, .inl ⟨rfl, rfl⟩⟩
theorem Inv.nilrow (iv : Inv w0 U w F hv H) (e : Nat) (t : Ty) : Inv w0 U w F (hv ++ [.slice none 0 0]) (H ++ [.arr e t []]) := by
  refine iv.push w.heap.size iv.size (fun h u C g h1 h2 h3 => (iv.rep h u C h1 h2).own_lt h3) ⟨[], nil_own w e t.sz, rfl⟩ (fun g hg => ?_) rfl
  simp [owns, vblocks, vblock] at hg
theorem intern_sound : ∀ (ss : List (Option (Nat × Ty))) (cl : List C) (H : List Blk) (hv : List Value) {vs : List Value}, Inv w0 U w F hv H → All2 (RepC w F hv) vs cl →
    ∃ ext, Inv w0 U w F (hv ++ ext) (intern ss cl H).2 ∧ All2 (RepC w F (hv ++ ext)) vs (intern ss cl H).1
  | [], cl, H, hv, vs, iv, h => ⟨[], by simpa [intern] using iv, by simpa [intern] using h⟩
  | s :: ss, [], H, hv, vs, iv, h => by
    refine ⟨[], ?_, ?_⟩
    · cases s <;> simpa [intern] using iv
    · cases s <;> simpa [intern] using h
  | none :: ss, c :: cl, H, hv, v :: vs, iv, h => by
    obtain ⟨ext, h1, h2⟩ := intern_sound ss cl H hv iv h.2
    exact ⟨ext, h1, (Step.ext hv ext).c (fun _ _ => trivial) h.1, h2⟩
  | some (e, t) :: ss, c :: cl, H, hv, v :: vs, iv, h => by
    have gen : ∃ ext, Inv w0 U w F (hv ++ ext) (intern ss cl H).2 ∧ All2 (RepC w F (hv ++ ext)) (v :: vs) (c :: (intern ss cl H).1) := by
      obtain ⟨ext, h1, h2⟩ := intern_sound ss cl H hv iv h.2
      exact ⟨ext, h1, (Step.ext hv ext).c (fun _ _ => trivial) h.1, h2⟩
    cases c with
    | ns =>
      have hvn : v = .slice none 0 0 := h.1
      have iv1 := iv.nilrow e t
      obtain ⟨ext, h1, h2⟩ := intern_sound ss cl (H ++ [.arr e t []]) (hv ++ [.slice none 0 0]) iv1 ((Step.ext hv _).l (fun _ _ => trivial) h.2)
      refine ⟨.slice none 0 0 :: ext, by simpa [intern] using h1, ?_, by simpa [intern] using h2⟩
      refine ⟨?_, _, _, _, hvn⟩
      rw [← iv.len, List.getElem?_append_right (Nat.le_refl _), hvn]
      simp
    | _ => exact gen
  | none :: _, _ :: _, _, _, [], _, h => h.elim
  | some _ :: _, _ :: _, _, _, [], _, h => h.elim
def cellsA : A → Option (List C)
  | .c .un => none
  | .c x => some [x]
  | .ag l => some l
theorem RepC.one {v : Value} {c : C} (h : RepC w F hv v c) (hc : c ≠ .un) : v.oneCell' = true := by
  cases c with
  | un => exact absurd rfl hc
  | fz t l => obtain ⟨ad, c, e, _⟩ := h; injection e with e; rw [e]; rfl
  | ow g => obtain ⟨_, ad, n, c, e⟩ := h; rw [e]; rfl
  | pt g o => obtain ⟨_, _, e⟩ := h; rw [e]; rfl
  | pe t x o => obtain ⟨_, _, _, e, _⟩ := h; rw [e]; rfl
  | fn f hs => obtain ⟨_, e, _⟩ := h; rw [e]; rfl
  | nz t l => obtain ⟨_, _, _, _, e⟩ := h; rw [e]; rfl
  | mp g => obtain ⟨_, _, _, e⟩ := h; rw [e]; rfl
  | po g i s o => obtain ⟨_, _, _, _, e⟩ := h; rw [e]; rfl
  | pm g i o => obtain ⟨_, _, _, _, e⟩ := h; rw [e]; rfl
  | er b =>
    have hb : (if b = true then ∃ t p, v = .iface t p else v = .nilIface) := h
    cases b with
    | true => obtain ⟨_, _, e⟩ := (show ∃ t p, v = .iface t p from by simpa using hb); rw [e]; rfl
    | false => rw [show v = .nilIface from by simpa using hb]; rfl
  | _ => rw [show v = _ from h]; rfl
theorem cells_one {v : Value} (h : v.oneCell' = true) : v.cells = #[v] := by
  cases v <;> first | rfl | (simp [Value.oneCell'] at h)
theorem cellsA_rep {v : Value} {x : A} {l : List C} (h : RepA w F hv v x) (hc : cellsA x = some l) : All2 (RepC w F hv) v.cells.toList l := by
  cases x with
  | ag m =>
    obtain ⟨cs, rfl, h⟩ := h
    simp only [cellsA, Option.some.injEq] at hc
    subst hc
    exact h
  | c y =>
    have hy : y ≠ .un := by rintro rfl; simp [cellsA] at hc
    have : l = [y] := by cases y <;> simp_all [cellsA]
    subst this
    rw [cells_one (RepC.one h hy)]
    exact ⟨h, trivial⟩
def isUn : C → Bool
  | .un => true
  | _ => false
def hasUn : List C → Bool
  | [] => false
  | c :: r => isUn c || hasUn r
theorem noUn_one : ∀ {l : List C} {vs : List Value}, hasUn l = false → All2 (RepC w F hv) vs l → ∀ v ∈ vs, v.oneCell' = true
  | [], [], _, _, v, hm => by cases hm
  | c :: l, v :: vs, hu, h, u, hm => by
    simp only [hasUn, Bool.or_eq_false_iff] at hu
    obtain ⟨hu1, hl⟩ := hu
    have hc : c ≠ .un := by rintro rfl; cases hu1
    rcases List.mem_cons.1 hm with rfl | hm
    · exact RepC.one h.1 hc
    · exact noUn_one hl h.2 u hm
  | [], _ :: _, _, h, _, _ => h.elim
  | _ :: _, [], _, h, _, _ => h.elim
theorem Rel.ext {S : St} {a : Act} (h : Rel w0 U S a w F hv) {hv' : List Value} {H' : List Blk} (iv : Inv w0 U w' F' hv' H') (s : Step w F hv w' F' hv' (fun _ => True)) : Rel w0 U ⟨S.n, S.t, H'⟩ a w' F' hv' :=
  ⟨h.sz, fun p hp => s.t (fun _ _ => trivial) (h.tm p hp), h.df, iv⟩
theorem set_same {α : Type} {l : List α} {i : Nat} {x : α} (h : l[i]? = some x) : l.set i x = l := by
  apply List.ext_getElem?
  intro j
  by_cases e : i = j
  · subst e
    rw [List.getElem?_set_self (List.getElem?_eq_some_iff.1 h).1, h]
  · rw [List.getElem?_set_ne e]
theorem Step.trans {w1 w2 w3 : World} {F1 F2 F3 : Nat → Prop} {v1 v2 v3 : List Value} {X : Nat → Prop} (s : Step w1 F1 v1 w2 F2 v2 X) (t : Step w2 F2 v2 w3 F3 v3 X) : Step w1 F1 v1 w3 F3 v3 X :=
  ⟨fun b h => t.f b (s.f b h), fun b h => (t.w b (s.f b h)).trans (s.w b h), fun h hx u hu => t.h h hx u (s.h h hx u hu)⟩
theorem grows_alloc (hf : ∀ b, F b → b < w.heap.size) (o : Obj) : Grows w F (w.alloc o) F :=
  ⟨rfl, rfl, rfl, by simp, fun k hk => Below.heap_alloc w o k hk, fun _ h => h, fun _ h => .inl h⟩
/-- a new box: the cells are there already -/
theorem newbox_sound {R : Type} {S : St} {a : Act} (h : Rel w0 U S a w F hv) (ss : List (Option (Nat × Ty))) {cl : List C} {cs : Array Value} (hc : All2 (RepC w F hv) cs.toList cl) (t : Nat) :
    ∃ hv', Rel w0 U ⟨S.n, S.t, (intern ss cl S.H).2 ++ [Blk.box false t (intern ss cl S.H).1]⟩ a (w.alloc (.cells cs t)) F hv' ∧ RepT (w.alloc (.cells cs t)) F hv' (.pointer (some ⟨w.heap.size, 0, none⟩)) (.a (.c (.pt (intern ss cl S.H).2.length 0))) := by
  obtain ⟨ext, iv1, hc1⟩ := intern_sound ss cl S.H hv h.iv hc
  have gr := grows_alloc (w := w) (F := F) h.iv.fb (.cells cs t)
  have iv2 := iv1.grows gr
  have hnew : (w.alloc (.cells cs t)).heap[w.heap.size]? = some (.cells cs t (0, 0)) := by show (w.heap.push _)[w.heap.size]? = _; simp
  have st1 : Step w F hv (w.alloc (.cells cs t)) F (hv ++ ext) (fun _ => True) := (Step.ext hv ext).trans (gr.step iv1.fb (hv ++ ext))
  have iv3 := iv2.push (v := .pointer (some ⟨w.heap.size, 0, none⟩)) (B := Blk.box false t (intern ss cl S.H).1) w.heap.size h.iv.size
    (fun g u C b h1 h2 h3 => (iv1.rep g u C h1 h2).own_lt h3)
    ⟨w.heap.size, cs, rfl, hnew, (Step.ext _ _).l (fun _ _ => trivial) ((gr.step iv1.fb (hv ++ ext)).l (fun _ _ => trivial) hc1)⟩
    (fun g hg => by
      have : w.heap.size = g := by simpa [owns, vblocks, vblock, eq_comm] using hg.2
      subst this
      exact ⟨Nat.le_refl _, fun hf => Nat.lt_irrefl _ (h.iv.fb _ hf)⟩) rfl
  refine ⟨_, h.ext iv3 (st1.trans (Step.ext _ _)), ⟨w.heap.size, ?_, rfl⟩⟩
  rw [← iv1.len, List.getElem?_append_right (Nat.le_refl _)]
  simp
end
end Go.Proofs.YtcpimjekllkbkaaGreatDoor.E
namespace Go.Proofs.YtcpimjekllkbkaaGreatDoor.E
open Go.RowKit
section
variable {P : Program} {w0 w w' : World} {U : U0} {F F' : Nat → Prop} {hv : List Value} {H : List Blk}
/-! rows as lists of cells -/
theorem Rows.list {t : Ty} {ad : Option Addr} : ∀ {l : List t.D}, Rows w F (DRep w F t) t.sz ad l → (l = [] ∨ ∃ b o cs, ad = some ⟨b, o, none⟩ ∧ w.rangeAt b o cs ∧ DReps w F t l cs)
  | [], _ => .inl rfl
  | x :: l, h => by
    obtain ⟨b, o, cs, rfl, hF, hra, hd⟩ := h 0 (by simp)
    have ht : Rows w F (DRep w F t) t.sz (some ⟨b, o + t.sz, none⟩) l := by
      intro i hi
      obtain ⟨b', o', cs', e, hF', hra', hd'⟩ := h (i + 1) (by simpa using hi)
      injection e with e
      injection e with e1 e2
      subst e1 e2
      refine ⟨_, _, cs', rfl, hF', ?_, by simpa using hd'⟩
      have : o + t.sz + i * t.sz = o + (i + 1) * t.sz := by rw [Nat.succ_mul]; omega
      rw [this]
      exact hra'
    have hra0 : w.rangeAt b o cs := by simpa using hra
    have hlen := DRep.len hd
    refine .inr ⟨b, o, ?_⟩
    rcases Rows.list ht with rfl | ⟨b', o', cs', e, hra', hd'⟩
    · exact ⟨cs ++ [], rfl, by simpa using hra0, cs, [], rfl, hd, rfl⟩
    · injection e with e
      injection e with e1 e2
      subst e1 e2
      refine ⟨cs ++ cs', rfl, fun j v hj => ?_, cs, cs', rfl, hd, hd'⟩
      by_cases hlt : j < cs.length
      · rw [List.getElem?_append_left hlt] at hj
        exact hra0 j v hj
      · rw [List.getElem?_append_right (by omega)] at hj
        have := hra' (j - cs.length) v hj
        have e : o + t.sz + (j - cs.length) = o + j := by omega
        rw [e] at this
        exact this
/-! own slices become data -/
def solid (c : C) (H : List Blk) : C × List Blk :=
  match c with
  | .ow h => match H.getD h .gone with
    | .arr _ t l => (.fz t l, H.set h (.fzd t l))
    | .fzd t l => (.fz t l, H)
    | _ => (.un, H)
  | c => (c, H)
def solidL : List C → List Blk → List C × List Blk
  | [], H => ([], H)
  | c :: r, H => match solid c H with
    | (c', H1) => match solidL r H1 with
      | (r', H2) => (c' :: r', H2)
theorem solid_sound (iv : Inv w0 U w F hv H) {c : C} {v : Value} (h : RepC w F hv v c) : ∃ F', Inv w0 U w F' hv (solid c H).2 ∧ Step w F hv w F' hv (fun _ => True) ∧ RepC w F' hv v (solid c H).1 := by
  have same : ∃ F', Inv w0 U w F' hv H ∧ Step w F hv w F' hv (fun _ => True) ∧ RepC w F' hv v c := ⟨F, iv, ⟨fun _ h => h, fun _ _ => rfl, fun _ _ _ h => h⟩, h⟩
  cases c with
  | ow g =>
    obtain ⟨hg, ad, n, c, rfl⟩ := h
    simp only [solid]
    split
    · rename_i e t l hH
      have hB := getD_some hH (by simp)
      let F' : Nat → Prop := fun b => F b ∨ owns (.slice ad n c) (.arr e t l) b
      have hm : ∀ b, F b → F' b := fun _ h => .inl h
      obtain ⟨xs, ⟨hl, hr⟩, hd⟩ := iv.rep g _ _ hg hB
      have key : DRep w F' (.sl t) l [.slice ad n c] := by
        rcases hr with ⟨e1, e2⟩ | ⟨b, cap, cur, e1, _, hb, hle, hcap, hcur, htk⟩
        · injection e1 with e1 e3 e4
          subst e1 e3 e4
          have : l = [] := List.length_eq_zero_iff.1 e2
          subst this
          exact ⟨none, 0, rfl, ⟨Nat.le_refl _, fun _ => rfl⟩, fun i hi => by simp at hi⟩
        · injection e1 with e1 e3 e4
          subst e1 e3 e4
          refine ⟨_, _, rfl, ⟨hle, fun h => by cases h⟩, fun i hi => ?_⟩
          obtain ⟨b', cap', cur', e5, hb', _, _, cs, hra, hd'⟩ := iv.arr hg hB hi
          cases e5
          refine ⟨b, 0, cs, rfl, .inr ⟨rfl, by simp [vblocks, vblock]⟩, by simpa using hra, ?_⟩
          rw [show l[i] = l.getD i t.z from by simp [List.getD_eq_getElem?_getD, hi]]
          exact DRep.mono hm (fun _ _ => rfl) hd'
      have iv' := iv.upd (w' := w) (F' := F') (v' := .slice ad n c) (B' := .fzd t l) hg hB rfl rfl rfl (Nat.le_refl _) (fun _ _ _ => rfl) hm (fun b h => h) (.inl rfl)
        (by rw [set_same hg]; exact key) (fun g' hg' => by simp [owns, Blk.own] at hg') (fun h => by cases h)
      rw [set_same hg] at iv'
      exact ⟨F', iv', ⟨hm, fun _ _ => rfl, fun _ _ _ h => h⟩, key⟩
    · rename_i t l hH
      have hB := getD_some hH (by simp)
      exact ⟨F, iv, ⟨fun _ h => h, fun _ _ => rfl, fun _ _ _ h => h⟩, iv.rep g _ _ hg hB⟩
    · exact ⟨F, iv, ⟨fun _ h => h, fun _ _ => rfl, fun _ _ _ h => h⟩, trivial⟩
  | _ => exact same
theorem solidL_sound : ∀ {cl : List C} {H : List Blk} {F : Nat → Prop} {vs : List Value}, Inv w0 U w F hv H → All2 (RepC w F hv) vs cl →
    ∃ F', Inv w0 U w F' hv (solidL cl H).2 ∧ Step w F hv w F' hv (fun _ => True) ∧ All2 (RepC w F' hv) vs (solidL cl H).1
  | [], H, F, [], iv, _ => ⟨F, iv, ⟨fun _ h => h, fun _ _ => rfl, fun _ _ _ h => h⟩, trivial⟩
  | c :: cl, H, F, v :: vs, iv, h => by
    obtain ⟨F1, iv1, s1, h1⟩ := solid_sound iv h.1
    obtain ⟨F2, iv2, s2, h2⟩ := solidL_sound iv1 (s1.l (fun _ _ => trivial) h.2)
    exact ⟨F2, iv2, s1.trans s2, s2.c (fun _ _ => trivial) h1, h2⟩
  | [], _, _, _ :: _, _, h => h.elim
  | _ :: _, _, _, [], _, h => h.elim
/-! what is no longer known of a handle -/
def fC (h : Nat) (c : C) : C := if c.hs.contains h then .un else c
def fA (h : Nat) : A → A
  | .c x => .c (fC h x)
  | .ag l => .ag (l.map (fC h))
def fT (h : Nat) : T → T
  | .a x => .a (fA h x)
  | .tu l => .tu (l.map (fA h))
def fB (h : Nat) : Blk → Blk
  | .box pn t c => .box pn t (c.map (fC h))
  | B => B
theorem fC_rep {h : Nat} {c : C} {v : Value} (hr : RepC w F hv v c) : RepC w F hv v (fC h c) := by
  unfold fC
  split
  · exact trivial
  · exact hr
theorem All2.map {α β γ : Type} {R : α → β → Prop} {Q : α → γ → Prop} {f : β → γ} (hf : ∀ x y, R x y → Q x (f y)) : ∀ {xs : List α} {ys : List β}, All2 R xs ys → All2 Q xs (ys.map f)
  | [], [], _ => trivial
  | _ :: _, _ :: _, h => ⟨hf _ _ h.1, All2.map hf h.2⟩
  | [], _ :: _, h => h.elim
  | _ :: _, [], h => h.elim
theorem fA_rep {h : Nat} {x : A} {v : Value} (hr : RepA w F hv v x) : RepA w F hv v (fA h x) := by
  cases x with
  | c x => exact fC_rep hr
  | ag l => obtain ⟨cs, e, hc⟩ := hr; exact ⟨cs, e, All2.map (R := RepC w F hv) (Q := RepC w F hv) (f := fC h) (fun _ _ hh => fC_rep hh) hc⟩
theorem fT_rep {h : Nat} {x : T} {v : Value} (hr : RepT w F hv v x) : RepT w F hv v (fT h x) := by
  cases x with
  | a x => exact fA_rep hr
  | tu l => obtain ⟨vs, e, hc⟩ := hr; exact ⟨vs, e, All2.map (R := RepA w F hv) (Q := RepA w F hv) (f := fA h) (fun _ _ hh => fA_rep hh) hc⟩
theorem fC_hs (h : Nat) (c : C) : h ∉ (fC h c).hs := by
  unfold fC
  split
  · simp [C.hs]
  · rename_i hn; simpa using hn
theorem fL_hs (h : Nat) : ∀ l : List C, h ∉ hsL (l.map (fC h))
  | [] => by simp [hsL]
  | c :: l => by simp only [List.map_cons, hsL, List.mem_append, not_or]; exact ⟨fC_hs h c, fL_hs h l⟩
theorem fA_hs (h : Nat) (x : A) : h ∉ (fA h x).hs := by
  cases x with
  | c x => exact fC_hs h x
  | ag l => exact fL_hs h l
theorem fT_hs (h : Nat) (x : T) : h ∉ (fT h x).hs := by
  cases x with
  | a x => exact fA_hs h x
  | tu l =>
    simp only [fT, T.hs, List.mem_flatten, List.mem_map]
    rintro ⟨_, ⟨x, ⟨y, _, rfl⟩, rfl⟩, hm⟩
    exact fA_hs h y hm
theorem fB_own (h : Nat) (B : Blk) : (fB h B).own = B.own := by cases B <;> rfl
theorem fB_refs (h : Nat) (B : Blk) : h ∉ (fB h B).refs := by cases B <;> simp [fB, Blk.refs, fL_hs]
theorem Inv.forget (iv : Inv w0 U w F hv H) (h : Nat) : Inv w0 U w F hv (H.map (fB h)) := by
  have pre : ∀ {g : Nat} {B : Blk}, (H.map (fB h))[g]? = some B → ∃ B', H[g]? = some B' ∧ B = fB h B' := by
    intro g B hB
    rw [List.getElem?_map] at hB
    cases e : H[g]? with
    | none => rw [e] at hB; cases hB
    | some B' => rw [e] at hB; simp at hB; exact ⟨B', rfl, hB.symm⟩
  have own : ∀ {v : Value} {B : Blk} {g : Nat}, owns v (fB h B) g → owns v B g := fun ho => ⟨by rw [← fB_own h]; exact ho.1, ho.2⟩
  refine ⟨iv.os, iv.tape, iv.output, iv.size, iv.old, iv.fb, iv.f0, iv.f1, by simp [iv.len], fun g v B h1 h2 => ?_, fun g v B b h1 h2 h3 => ?_, fun g g' v v' B B' b h1 h2 h1' h2' h3 h3' => ?_, fun g v B h1 h2 h3 => ?_, iv.lay⟩
  · obtain ⟨B', hB', rfl⟩ := pre h2
    have := iv.rep g v B' h1 hB'
    cases B' with
    | box pn t c => obtain ⟨b, cs, e, hb, hc⟩ := this; exact ⟨b, cs, e, hb, All2.map (R := RepC w F hv) (Q := RepC w F hv) (f := fC h) (fun _ _ hh => fC_rep hh) hc⟩
    | _ => exact this
  · obtain ⟨B', hB', rfl⟩ := pre h2
    exact iv.own g v B' b h1 hB' (own h3)
  · obtain ⟨B1, hB1, rfl⟩ := pre h2
    obtain ⟨B2, hB2, rfl⟩ := pre h2'
    exact iv.dis g g' v v' B1 B2 b h1 hB1 h1' hB2 (own h3) (own h3')
  · obtain ⟨B', hB', rfl⟩ := pre h2
    exact iv.pin g v B' h1 hB' (by cases B' <;> first | exact h3 | cases h3)
end
end Go.Proofs.YtcpimjekllkbkaaGreatDoor.E
namespace Go.Proofs.YtcpimjekllkbkaaGreatDoor.E
open Go.RowKit
section
variable {R : Type}
def storeK (P : Program) (t : Nat) (x : C) (cl : List C) (S : St) (k : St → Option R) : Option R :=
  match P.info? t with
  | some i => if i.size = cl.length ∧ hasUn cl = false then
    match x with
    | .pt h o => match intern (slots P 12 t) cl S.H with
      | (cl', H') => match H'.getD h .gone with
        | .box pn ty c => if o + cl.length ≤ c.length then k ⟨S.n, S.t, H'.set h (.box pn ty (c.take o ++ cl' ++ c.drop (o + cl.length)))⟩ else none
        | _ => none
    | .po h i sz o => match solidL cl S.H with
      | (cl', H') => match H'.getD h .gone with
        | .arr e ty l => if sz = ty.sz ∧ o + cl.length ≤ sz then
            (if i < l.length then match dec ty ((enc ty (l.getD i ty.z)).take o ++ cl' ++ (enc ty (l.getD i ty.z)).drop (o + cl.length)) with
              | some (y, []) => k ⟨S.n, S.t, H'.set h (.arr e ty (l.set i y))⟩
              | _ => none
            else none) else none
        | _ => none
    | .pm h i o => match solidL cl S.H with
      | (cl', H') => match H'.getD h .gone with
        | .mp (some ty) kt vt l => if o + cl.length ≤ vt.sz then
            (if i < l.length then match dec vt ((enc vt (l.getD i (kt.z, vt.z)).2).take o ++ cl' ++ (enc vt (l.getD i (kt.z, vt.z)).2).drop (o + cl.length)) with
              | some (y, []) => k ⟨S.n, S.t, H'.set h (.mp (some ty) kt vt (l.set i ((l.getD i (kt.z, vt.z)).1, y)))⟩
              | _ => none
            else none) else none
        | _ => none
    | _ => none
    else none
  | none => none
variable {P : Program} {w0 w w' : World} {U : U0} {F F' : Nat → Prop} {hv : List Value} {H : List Blk} {r : R}
theorem DReps.set {t : Ty} : ∀ {l : List t.D} {cs : List Value} {i : Nat} {y : t.D} {c : List Value}, i < l.length → DReps w F t l cs → DRep w F t y c → DReps w F t (l.set i y) (cs.take (i * t.sz) ++ c ++ cs.drop ((i + 1) * t.sz))
  | x :: l, _, 0, y, c, _, ⟨c1, c2, e, h1, h2⟩, hy => by
    subst e
    have := DRep.len h1
    refine ⟨c, c2, ?_, hy, h2⟩
    simp only [Nat.zero_mul, List.take_zero, List.nil_append, Nat.zero_add, Nat.one_mul]
    rw [← this, List.drop_left]
  | x :: l, _, i + 1, y, c, hi, ⟨c1, c2, e, h1, h2⟩, hy => by
    subst e
    have hl := DRep.len h1
    refine ⟨c1, c2.take (i * t.sz) ++ c ++ c2.drop ((i + 1) * t.sz), ?_, h1, DReps.set (by simpa using hi) h2 hy⟩
    have e1 : (c1 ++ c2).take ((i + 1) * t.sz) = c1 ++ c2.take (i * t.sz) := by
      rw [Nat.succ_mul, Nat.add_comm, ← hl, List.take_length_add_append]
    have e2 : (c1 ++ c2).drop ((i + 1 + 1) * t.sz) = c2.drop ((i + 1) * t.sz) := by
      rw [Nat.succ_mul (i + 1), Nat.add_comm, ← hl, List.drop_length_add_append]
    rw [e1, e2]
    simp
theorem intern_pre : ∀ (ss : List (Option (Nat × Ty))) (cl : List C) (H : List Blk), ∃ m, (intern ss cl H).2 = H ++ m
  | [], cl, H => ⟨[], by simp [intern]⟩
  | none :: ss, [], H => ⟨[], by simp [intern]⟩
  | some _ :: ss, [], H => ⟨[], by simp [intern]⟩
  | none :: ss, c :: cl, H => intern_pre ss cl H
  | some (e, t) :: ss, c :: cl, H => by
    cases c with
    | ns =>
      obtain ⟨m, hm⟩ := intern_pre ss cl (H ++ [.arr e t []])
      exact ⟨.arr e t [] :: m, by show (intern ss cl (H ++ [.arr e t []])).2 = _; rw [hm]; simp⟩
    | _ => exact intern_pre ss cl H
theorem intern_len : ∀ (ss : List (Option (Nat × Ty))) (cl : List C) (H : List Blk), (intern ss cl H).1.length = cl.length
  | [], cl, H => by simp [intern]
  | none :: ss, [], H => by simp [intern]
  | some _ :: ss, [], H => by simp [intern]
  | none :: ss, c :: cl, H => by show (c :: (intern ss cl H).1).length = _; simp [intern_len ss cl H]
  | some (e, t) :: ss, c :: cl, H => by
    cases c with
    | ns => show (C.ow H.length :: (intern ss cl (H ++ [.arr e t []])).1).length = _; simp [intern_len ss cl]
    | _ => show (_ :: (intern ss cl H).1).length = _; simp [intern_len ss cl]
theorem solidL_len : ∀ (cl : List C) (H : List Blk), (solidL cl H).1.length = cl.length
  | [], H => rfl
  | c :: cl, H => by show (_ :: (solidL cl (solid c H).2).1).length = _; simp [solidL_len cl]
theorem splice_take {α : Type} (A vs : List α) {a sz o n L : Nat} (hn : vs.length = n) (h1 : o + n ≤ sz) (h2 : a + sz ≤ L) (h3 : L ≤ A.length) :
    (A.take (a + o) ++ vs ++ A.drop (a + o + vs.length)).take L = (A.take L).take a ++ ((((A.take L).drop a).take sz).take o ++ vs ++ (((A.take L).drop a).take sz).drop (o + n)) ++ (A.take L).drop (a + sz) := by
  subst hn
  obtain ⟨A1, r1, e1, l1⟩ : ∃ x y, A = x ++ y ∧ x.length = a := ⟨A.take a, A.drop a, by simp, by simp; omega⟩
  obtain ⟨A2, r2, e2, l2⟩ : ∃ x y, r1 = x ++ y ∧ x.length = o := ⟨r1.take o, r1.drop o, by simp, by have := congrArg List.length e1; simp at this ⊢; omega⟩
  obtain ⟨A3, r3, e3, l3⟩ : ∃ x y, r2 = x ++ y ∧ x.length = vs.length := ⟨r2.take vs.length, r2.drop vs.length, by simp, by have := congrArg List.length e1; have := congrArg List.length e2; simp at *; omega⟩
  obtain ⟨A4, r4, e4, l4⟩ : ∃ x y, r3 = x ++ y ∧ x.length = sz - o - vs.length := ⟨r3.take (sz - o - vs.length), r3.drop (sz - o - vs.length), by simp, by have := congrArg List.length e1; have := congrArg List.length e2; have := congrArg List.length e3; simp at *; omega⟩
  obtain ⟨A5, r5, e5, l5⟩ : ∃ x y, r4 = x ++ y ∧ x.length = L - a - sz := ⟨r4.take (L - a - sz), r4.drop (L - a - sz), by simp, by have := congrArg List.length e1; have := congrArg List.length e2; have := congrArg List.length e3; have := congrArg List.length e4; simp at *; omega⟩
  subst e5 e4 e3 e2 e1
  have hL : L = A1.length + (A2.length + (vs.length + (A4.length + A5.length))) := by omega
  have hL3 : L = A1.length + (A2.length + (A3.length + (A4.length + A5.length))) := by omega
  have hsz : sz = A2.length + (A3.length + A4.length) := by omega
  have t1 : (A1 ++ (A2 ++ (A3 ++ (A4 ++ (A5 ++ r5))))).take L = A1 ++ (A2 ++ (A3 ++ (A4 ++ A5))) := by
    rw [hL3]; simp only [List.take_length_add_append, List.take_left]
  have t2 : (A1 ++ (A2 ++ (A3 ++ (A4 ++ (A5 ++ r5))))).take (a + o) = A1 ++ A2 := by
    rw [← l1, ← l2]; simp only [List.take_length_add_append, List.take_left]
  have t3 : (A1 ++ (A2 ++ (A3 ++ (A4 ++ (A5 ++ r5))))).drop (a + o + vs.length) = A4 ++ (A5 ++ r5) := by
    rw [← l1, ← l2, ← l3, Nat.add_assoc]; simp only [List.drop_length_add_append, List.drop_left]
  have t4 : (A1 ++ (A2 ++ (A3 ++ (A4 ++ A5)))).drop a = A2 ++ (A3 ++ (A4 ++ A5)) := by rw [← l1, List.drop_left]
  have t5 : (A2 ++ (A3 ++ (A4 ++ A5))).take sz = A2 ++ (A3 ++ A4) := by rw [hsz]; simp only [List.take_length_add_append, List.take_left]
  have t6 : (A2 ++ (A3 ++ A4)).take o = A2 := by rw [← l2, List.take_left]
  have t7 : (A2 ++ (A3 ++ A4)).drop (o + vs.length) = A4 := by rw [← l2, ← l3]; simp only [List.drop_length_add_append, List.drop_left]
  have t8 : (A1 ++ (A2 ++ (A3 ++ (A4 ++ A5)))).drop (a + sz) = A5 := by rw [← l1, hsz]; simp only [List.drop_length_add_append, List.drop_left]
  have t9 : (A1 ++ (A2 ++ (A3 ++ (A4 ++ A5)))).take a = A1 := by rw [← l1, List.take_left]
  rw [t1, t2, t3, t4, t5, t6, t7, t8, t9]
  have : A1 ++ A2 ++ vs ++ (A4 ++ (A5 ++ r5)) = A1 ++ (A2 ++ (vs ++ (A4 ++ (A5 ++ r5)))) := by simp
  rw [this, hL]
  simp only [List.take_length_add_append, List.take_left]
  simp
/-- cells of a run, stored at an offset of a block of one's own -/
theorem storeVar_run {t : Nat} {i : TypeInfo} (hi : P.info? t = some i) {v : Value} {g o ty : Nat} {cur : Array Value} (hb : w.heap[g]? = some (.cells cur ty (0, 0))) (hs : v.cells.size = i.size) (hl : o + v.cells.size ≤ cur.size) (h1 : ∀ u ∈ v.cells.toList, u.oneCell' = true) :
    (Instr.storeAt t (.pointer (some ⟨g, o, none⟩)) v).run P w = .ok () (w.setRow g (cur.toList.take o ++ v.cells.toList ++ cur.toList.drop (o + v.cells.toList.length)).toArray) := by
  have := run_storeCells_at P g o ty v.cells.toList 0 cur w hb (by simpa using hl) h1
  simp only [Nat.add_zero] at this
  simp [Instr.storeAt, Instr.sureAddr, storeVar, Sem.run_bind, sizeOf, typeInfo, hi, hs, this]
theorem All2.splice {α β : Type} {Q : α → β → Prop} {xs ys : List α} {ags bs : List β} (o n : Nat) (h : All2 Q xs ags) (h' : All2 Q ys bs) : All2 Q (xs.take o ++ ys ++ xs.drop (o + n)) (ags.take o ++ bs ++ ags.drop (o + n)) :=
  ((h.take o).app h').app (h.drop (o + n))
theorem setRow_heap_other {g : Nat} {cs : Array Value} (k : Nat) (h : k ≠ g) : (w.setRow g cs).heap[k]? = w.heap[k]? := setRow_other w g k cs h
theorem filterMap_inj {α β : Type} {f : α → Option β} : ∀ {l : List α} {i j : Nat} {x y : α} {b : β}, (l.filterMap f).Nodup → l[i]? = some x → l[j]? = some y → f x = some b → f y = some b → i = j
  | [], i, j, x, y, b, _, h, _, _, _ => by simp at h
  | z :: l, i, j, x, y, b, hn, h1, h2, h3, h4 => by
    have tail : ∀ {i : Nat} {x : α}, l[i]? = some x → f x = some b → b ∈ l.filterMap f := fun h h' => List.mem_filterMap.2 ⟨_, List.mem_of_getElem? h, h'⟩
    cases i with
    | zero =>
      simp only [List.getElem?_cons_zero, Option.some.injEq] at h1
      subst h1
      rw [List.filterMap_cons, h3] at hn
      cases j with
      | zero => rfl
      | succ j =>
        simp only [List.getElem?_cons_succ] at h2
        exact absurd (tail h2 h4) (List.nodup_cons.1 hn).1
    | succ i =>
      simp only [List.getElem?_cons_succ] at h1
      cases j with
      | zero =>
        simp only [List.getElem?_cons_zero, Option.some.injEq] at h2
        subst h2
        rw [List.filterMap_cons, h4] at hn
        exact absurd (tail h1 h3) (List.nodup_cons.1 hn).1
      | succ j =>
        simp only [List.getElem?_cons_succ] at h2
        have hn2 : (l.filterMap f).Nodup := by
          rw [List.filterMap_cons] at hn
          split at hn
          · exact hn
          · exact (List.nodup_cons.1 hn).2
        rw [filterMap_inj hn2 h1 h2 h3 h4]
theorem storeK_sound {S : St} {a : Act} (hR : Rel w0 U S a w F hv) {t : Nat} {x : C} {cl : List C} {k : St → Option R} (h : storeK P t x cl S k = some r) {vx v : Value} (hx : RepC w F hv vx x) (hv' : All2 (RepC w F hv) v.cells.toList cl) :
    ∃ S' w' F' hv'', k S' = some r ∧ S'.t = S.t ∧ Rel w0 U S' a w' F' hv'' ∧ (Instr.storeAt t vx v).run P w = .ok () w' := by
  unfold storeK at h
  split at h
  case h_2 => cases h
  rename_i i hi
  split at h
  case isFalse => cases h
  rename_i hc
  obtain ⟨hsz, hun⟩ := hc
  have hcs : v.cells.size = cl.length := by have := hv'.len; simpa using this
  have hone := noUn_one hun hv'
  split at h
  · rename_i hh o
    obtain ⟨g, hg, rfl⟩ := hx
    obtain ⟨ext, iv1, hc1⟩ := intern_sound (slots P 12 t) cl S.H hv hR.iv hv'
    obtain ⟨m, hm⟩ := intern_pre (slots P 12 t) cl S.H
    have hln := intern_len (slots P 12 t) cl S.H
    revert h
    generalize intern (slots P 12 t) cl S.H = q at *
    obtain ⟨cl', H'⟩ := q
    intro h
    simp only at h hm iv1 hc1 hln
    split at h
    · rename_i pn ty c hH
      split at h
      · rename_i hlen
        have hg1 : (hv ++ ext)[hh]? = some (.pointer (some ⟨g, 0, none⟩)) := by rw [List.getElem?_append_left (List.getElem?_eq_some_iff.1 hg).1]; exact hg
        obtain ⟨hB, cur, hb, hcur⟩ := iv1.box hg1 hH
        have hcl : cur.size = c.length := by have := hcur.len; simpa using this
        have hrun := storeVar_run (P := P) hi hb (v := v) (by rw [hcs, hsz]) (by rw [hcs, hcl]; exact hlen) hone
        generalize hW : w.setRow g (cur.toList.take o ++ v.cells.toList ++ cur.toList.drop (o + v.cells.toList.length)).toArray = W at hrun
        have hsame : ∀ k, k ≠ g → W.heap[k]? = w.heap[k]? := fun k hk => by rw [← hW]; exact setRow_other w g k _ hk
        have hat : W.heap[g]? = some (.cells (cur.toList.take o ++ v.cells.toList ++ cur.toList.drop (o + v.cells.toList.length)).toArray ty (0, 0)) := by rw [← hW]; exact setRow_heap w g cur _ ty (0, 0) hb
        have hown : owns (.pointer (some ⟨g, 0, none⟩)) (.box pn ty c) g := ⟨rfl, by simp [vblocks, vblock]⟩
        have hnF := (iv1.own hh _ _ g hg1 hB hown).1
        have st : Step w F (hv ++ ext) W F (hv ++ ext) (fun _ => True) := ⟨fun _ h => h, fun b hb' => hsame b (fun e => hnF (e ▸ hb')), fun _ _ _ h => h⟩
        have hset : (hv ++ ext).set hh (.pointer (some ⟨g, 0, none⟩)) = hv ++ ext := set_same hg1
        have iv2 := iv1.upd (w' := W) (F' := F) (v' := .pointer (some ⟨g, 0, none⟩)) (B' := .box pn ty (c.take o ++ cl' ++ c.drop (o + cl.length))) hg1 hB
          (by rw [← hW]; rfl) (by rw [← hW]; rfl) (by rw [← hW]; rfl) (by rw [← hW]; simp)
          (fun k _ hk => hsame k (fun e => hk (e ▸ hown))) (fun _ h => h) (fun _ h => .inl h) (.inl rfl)
          (by
            rw [hset]
            refine ⟨g, _, rfl, hat, ?_⟩
            have hl2 : v.cells.toList.length = cl.length := by simpa using hcs
            rw [hl2]
            exact All2.splice o cl.length (st.l (fun _ _ => trivial) hcur) (st.l (fun _ _ => trivial) hc1))
          (fun g' hg' => by
            have : g = g' := by simpa [owns, vblocks, vblock, eq_comm] using hg'.2
            subst this
            exact ⟨hnF, .inl hown⟩) (fun h => ⟨rfl, h⟩)
        rw [hset] at iv2
        exact ⟨_, W, F, hv ++ ext, h, rfl, hR.ext iv2 ((Step.ext hv ext).trans st), hrun⟩
      · cases h
    · cases h
  · rename_i hh ix sz o
    obtain ⟨g, n0, c0, hg, rfl⟩ := hx
    obtain ⟨F1, iv1, s1, hc1⟩ := solidL_sound hR.iv hv'
    have hln := solidL_len cl S.H
    revert h
    generalize solidL cl S.H = q at *
    obtain ⟨cl', H'⟩ := q
    intro h
    simp only at h iv1 hc1 hln
    split at h
    · rename_i e ty l hH
      split at h
      · rename_i hsz2
        obtain ⟨rfl, hfit⟩ := hsz2
        split at h
        · rename_i hi2
          split at h
          · rename_i y hdec
            have hB := getD_some hH (by simp)
            obtain ⟨xs, ⟨hxl, hr⟩, hd⟩ := iv1.rep hh _ _ hg hB
            rcases hr with ⟨e1, _⟩ | ⟨g', cap, cur, e1, _, hb, hle, hcap, hcur, htk⟩
            · cases e1
            cases e1
            have hidx : (ix + 1) * ty.sz ≤ l.length * ty.sz := Nat.mul_le_mul_right _ hi2
            have hcapm : l.length * ty.sz ≤ c0 * ty.sz := Nat.mul_le_mul_right _ hle
            rw [Nat.succ_mul] at hidx
            have hrun := storeVar_run (P := P) hi hb (v := v) (o := ix * ty.sz + o) (by rw [hcs, hsz]) (by rw [hcs]; omega) hone
            generalize hW : w.setRow g (cur.toList.take (ix * ty.sz + o) ++ v.cells.toList ++ cur.toList.drop (ix * ty.sz + o + v.cells.toList.length)).toArray = W at hrun
            have hsame : ∀ k, k ≠ g → W.heap[k]? = w.heap[k]? := fun k hk => by rw [← hW]; exact setRow_other w g k _ hk
            have hat : W.heap[g]? = some (.cells (cur.toList.take (ix * ty.sz + o) ++ v.cells.toList ++ cur.toList.drop (ix * ty.sz + o + v.cells.toList.length)).toArray e (0, 0)) := by rw [← hW]; exact setRow_heap w g cur _ e (0, 0) hb
            have hown : owns (.slice (some ⟨g, 0, none⟩) l.length c0) (.arr e ty l) g := ⟨rfl, by simp [vblocks, vblock]⟩
            have hnF := (iv1.own hh _ _ g hg hB hown).1
            have st : Step w F1 hv W F1 hv (fun _ => True) := ⟨fun _ h => h, fun b hb' => hsame b (fun e => hnF (e ▸ hb')), fun _ _ _ h => h⟩
            have hset : hv.set hh (.slice (some ⟨g, 0, none⟩) l.length c0) = hv := set_same hg
            -- the element's cells
            have hel : DRep w F1 ty (l.getD ix ty.z) ((xs.drop (ix * ty.sz)).take ty.sz) := by
              have := DReps.at hi2 hd
              simpa [List.getD_eq_getElem?_getD, hi2] using this
            have hsp := All2.splice o cl.length (enc_rep (hv := hv) hel) hc1
            obtain ⟨c1, c2, e2, hy, hc2⟩ := dec_rep hdec hsp
            have hc20 : c2 = [] := List.length_eq_zero_iff.1 hc2.len
            subst hc20
            rw [List.append_nil] at e2
            subst e2
            have hl2 : v.cells.toList.length = cl.length := by simpa using hcs
            have hd2 := DReps.mono (F' := F1) (fun _ h => h) st.w (DReps.set hi2 hd hy)
            have hxl' : xs.length = l.length * ty.sz := hxl
            have hcurl : cur.toList.length = c0 * ty.sz := by simpa using hcur
            have ex : xs = cur.toList.take (l.length * ty.sz) := htk.symm
            have hnew : (cur.toList.take (ix * ty.sz + o) ++ v.cells.toList ++ cur.toList.drop (ix * ty.sz + o + v.cells.toList.length)).take (l.length * ty.sz) = xs.take (ix * ty.sz) ++ (((xs.drop (ix * ty.sz)).take ty.sz).take o ++ v.cells.toList ++ ((xs.drop (ix * ty.sz)).take ty.sz).drop (o + cl.length)) ++ xs.drop ((ix + 1) * ty.sz) := by
              rw [ex, Nat.succ_mul]
              exact splice_take cur.toList v.cells.toList hl2 hfit hidx (by omega)
            have iv2 := iv1.upd (w' := W) (F' := F1) (v' := .slice (some ⟨g, 0, none⟩) l.length c0) (B' := .arr e ty (l.set ix y)) hg hB
              (by rw [← hW]; rfl) (by rw [← hW]; rfl) (by rw [← hW]; rfl) (by rw [← hW]; simp)
              (fun k _ hk => hsame k (fun e => hk (e ▸ hown))) (fun _ h => h) (fun _ h => .inl h) (.inl rfl)
              (by
                refine ⟨_, ⟨?_, .inr ⟨g, c0, _, by simp, Nat.zero_le _, hat, by simpa using hle, hcap, ?_, ?_⟩⟩, hd2⟩
                · simpa using DReps.len hd2
                · simp only [List.size_toArray, List.length_append, List.length_take, List.length_drop, hl2, hcurl]; omega
                · simpa using hnew)
              (fun g' hg' => by
                have : g = g' := by simpa [owns, vblocks, vblock, eq_comm] using hg'.2
                subst this
                exact ⟨hnF, .inl hown⟩) (fun h => by cases h)
            rw [hset] at iv2
            exact ⟨_, W, F1, hv, h, rfl, hR.ext iv2 (s1.trans st), hrun⟩
          · cases h
        · cases h
      · cases h
    · cases h
  · rename_i hh ix o
    obtain ⟨tl, g, hg, hti, rfl⟩ := hx
    obtain ⟨F1, iv1, s1, hc1⟩ := solidL_sound hR.iv hv'
    revert h
    generalize solidL cl S.H = q at *
    obtain ⟨cl', H'⟩ := q
    intro h
    simp only at h iv1 hc1
    split at h
    · rename_i ty kt vt l hH
      split at h
      · rename_i hfit
        split at h
        · rename_i hi2
          split at h
          · rename_i y hdec
            have hB := getD_some hH (by simp)
            obtain ⟨m, es, clock, ps, e1, hm, hes, hr, hnd, hps⟩ := iv1.rep hh _ _ hg hB
            injection e1 with e1
            subst e1
            have hti2 : ps[ix]? = some (.pointer (some ⟨g, 0, none⟩)) := by simpa using hti
            obtain ⟨cur, hb, hd⟩ := iv1.mpAt hg hti hB hi2
            have hcurl : cur.toList.length = vt.sz := DRep.len hd
            have hrun := storeVar_run (P := P) hi hb (v := v) (o := o) (by rw [hcs, hsz]) (by rw [hcs, ← Array.length_toList, hcurl]; exact hfit) hone
            generalize hW : w.setRow g (cur.toList.take o ++ v.cells.toList ++ cur.toList.drop (o + v.cells.toList.length)).toArray = W at hrun
            have hsame : ∀ k, k ≠ g → W.heap[k]? = w.heap[k]? := fun k hk => by rw [← hW]; exact setRow_other w g k _ hk
            have hat : W.heap[g]? = some (.cells (cur.toList.take o ++ v.cells.toList ++ cur.toList.drop (o + v.cells.toList.length)).toArray ty (0, 0)) := by rw [← hW]; exact setRow_heap w g cur _ ty (0, 0) hb
            have hgm : g ≠ m := fun e => by rw [e] at hb; rw [hb] at hm; cases hm
            have hown : owns (.tuple (.map (some m) :: ps).toArray) (.mp (some ty) kt vt l) g := ⟨rfl, mblocks.2 (.inr (List.mem_filterMap.2 ⟨_, List.mem_of_getElem? hti2, rfl⟩))⟩
            have hnF := (iv1.own hh _ _ g hg hB hown).1
            have st : Step w F1 hv W F1 hv (fun _ => True) := ⟨fun _ h => h, fun b hb' => hsame b (fun e => hnF (e ▸ hb')), fun _ _ _ h => h⟩
            have hset : hv.set hh (.tuple (.map (some m) :: ps).toArray) = hv := set_same hg
            have hsp := All2.splice o cl.length (enc_rep (hv := hv) hd) hc1
            obtain ⟨c1, c2, e2, hy, hc2⟩ := dec_rep hdec hsp
            have hc20 : c2 = [] := List.length_eq_zero_iff.1 hc2.len
            subst hc20
            rw [List.append_nil] at e2
            subst e2
            have hl2 : v.cells.toList.length = cl.length := by simpa using hcs
            have hnd2 : (ps.filterMap vblock).Nodup := by
              have : vblocks (.tuple (.map (some m) :: ps).toArray) = m :: ps.filterMap vblock := by simp [vblocks, vblock]
              rw [this] at hnd
              exact (List.nodup_cons.1 hnd).2
            have hr2 : ∀ (i : Nat) e x, es[i]? = some e → (l.set ix ((l.getD ix (kt.z, vt.z)).1, y))[i]? = some x → MRep W F1 ps (some ty) kt vt i e x := by
              intro i e x he hx
              by_cases hij : i = ix
              · subst hij
                rw [List.getElem?_set_self hi2] at hx
                injection hx with hx
                subst hx
                have h1 := hr i e (l.getD i (kt.z, vt.z)) he (by rw [List.getD_eq_getElem?_getD, List.getElem?_eq_getElem hi2]; rfl)
                obtain ⟨hk1, hp, b, cs, hval, hb2, hd2⟩ := h1
                have eb : b = g := by
                  rw [hti2, hval] at hp
                  injection hp with hp
                  injection hp with hp
                  injection hp with hp
                  injection hp with hp
                  exact hp.symm
                subst eb
                refine ⟨DRep.mono (F' := F1) (fun _ h => h) st.w hk1, hp, b, _, hval, hat, ?_⟩
                have := DRep.mono (F' := F1) (fun _ h => h) st.w hy
                simpa [hl2] using this
              · rw [List.getElem?_set_ne (fun e => hij e.symm)] at hx
                obtain ⟨hk1, hp, b, cs, hval, hb2, hd2⟩ := hr i e x he hx
                have hbg : b ≠ g := fun eb => by
                  subst eb
                  rw [hval] at hp
                  exact hij (filterMap_inj hnd2 hp hti2 rfl rfl)
                exact ⟨DRep.mono (F' := F1) (fun _ h => h) st.w hk1, hp, b, cs, hval, (hsame b hbg).trans hb2, DRep.mono (F' := F1) (fun _ h => h) st.w hd2⟩
            have iv2 := iv1.upd (w' := W) (F' := F1) (v' := .tuple (.map (some m) :: ps).toArray) (B' := .mp (some ty) kt vt (l.set ix ((l.getD ix (kt.z, vt.z)).1, y))) hg hB
              (by rw [← hW]; rfl) (by rw [← hW]; rfl) (by rw [← hW]; rfl) (by rw [← hW]; simp)
              (fun k _ hk => hsame k (fun e => hk (e ▸ hown))) (fun _ h => h) (fun _ h => .inl h) (.inl rfl)
              ⟨m, es, clock, ps, rfl, (hsame m (Ne.symm hgm)).trans hm, by simpa using hes, hr2, hnd, by simpa using hps⟩
              (fun g' hg' => ⟨(iv1.own hh _ _ g' hg hB ⟨rfl, hg'.2⟩).1, .inl ⟨rfl, hg'.2⟩⟩) (fun h => by cases h)
            rw [hset] at iv2
            exact ⟨_, W, F1, hv, h, rfl, hR.ext iv2 (s1.trans st), hrun⟩
          · cases h
        · cases h
      · cases h
    · cases h
  · cases h
end
end Go.Proofs.YtcpimjekllkbkaaGreatDoor.E
namespace Go.Proofs.YtcpimjekllkbkaaGreatDoor.E
open Go.RowKit
section
variable {R : Type}
/-- a slice literal's elements, in order, all of them -/
def buildL (ty : Ty) (ts : List (Nat × T)) : Nat → List (Nat × Operand) → List Blk → Option (List ty.D × List Blk)
  | _, [], H => some ([], H)
  | j, (i, x) :: r, H => if i = j then match ev ts x with
      | .a a => match cellsA a with
        | some cl => match solidL cl H with
          | (cl', H1) => match dec ty cl' with
            | some (y, []) => match buildL ty ts (j + 1) r H1 with
              | some (ys, H2) => some (y :: ys, H2)
              | none => none
            | _ => none
        | none => none
      | _ => none
    else none
def buildSliceK (P : Program) (t n : Nat) (ps : List (Nat × Operand)) (S : St) (k : T → St → Option R) : Option R :=
  match elemTy P t with
  | some (e, ty, _) => if ps.length = n ∧ n * ty.sz ≤ 16777216 ∧ n ≤ maxLen then match buildL ty S.t 0 ps S.H with
      | some (l, H1) => k (.a (.c (.ow H1.length))) ⟨S.n, S.t, H1 ++ [.arr e ty l]⟩
      | none => none
    else none
  | none => none
variable {P : Program} {w0 w w' : World} {U : U0} {F F' : Nat → Prop} {hv : List Value} {H : List Blk} {r : R}
theorem elemTy_spec {t e : Nat} {ty : Ty} {b : Nat} (h : elemTy P t = some (e, ty, b)) : ∃ i z, P.underlying t = some (.slice e) ∧ P.info? e = some i ∧ i.zero = some z ∧ z.cells.size = ty.sz ∧ i.size = ty.sz ∧ 0 < ty.sz ∧ i.bytes = b := by
  unfold elemTy at h
  split at h
  · rename_i e' hu
    split at h
    · rename_i ty' i h1 hi
      split at h
      · rename_i z hz
        split at h
        · rename_i hs
          injection h with h
          injection h with h2 h3
          injection h3 with h3 h4
          subst h2 h3
          exact ⟨i, z, hu, hi, hz, hs.2.2, hs.1, hs.2.1, h4⟩
        · cases h
      · cases h
    · cases h
  · cases h
theorem buildL_sound {ty : Ty} {S : St} {a : Act} : ∀ {ps : List (Nat × Operand)} {j : Nat} {H : List Blk} {F : Nat → Prop} {l : List ty.D} {H' : List Blk}, Inv w0 U w F hv H → (∀ i, RepT w F hv (a.tmps.getD i undef) (look S.t i)) → buildL ty S.t j ps H = some (l, H') →
    ∃ F', Inv w0 U w F' hv H' ∧ Step w F hv w F' hv (fun _ => True) ∧ (∀ v ∈ ps.map (fun p => a.eval p.2), v.cells.size = ty.sz) ∧ DReps w F' ty l ((ps.map (fun p => a.eval p.2)).flatMap fun v => v.cells.toList) ∧ ps = ((ps.map (·.2)).zipIdx j).map (fun q => (q.2, q.1))
  | [], j, H, F, l, H', iv, ht, h => by
    simp only [buildL, Option.some.injEq, Prod.mk.injEq] at h
    obtain ⟨rfl, rfl⟩ := h
    exact ⟨F, iv, ⟨fun _ h => h, fun _ _ => rfl, fun _ _ _ h => h⟩, by simp, rfl, rfl⟩
  | (i, x) :: ps, j, H, F, l, H', iv, ht, h => by
    simp only [buildL] at h
    split at h
    case isFalse => cases h
    rename_i hij
    subst hij
    split at h
    case h_2 => cases h
    rename_i a' hev
    split at h
    case h_2 => cases h
    rename_i cl hcl
    have hx : RepT w F hv (a.eval x) (ev S.t x) := by
      cases x with
      | tmp t => exact ht t
      | const v => exact ofConst_rep v
      | func f => exact ⟨[], rfl, trivial⟩
      | global g => exact trivial
    rw [hev] at hx
    have hc := cellsA_rep hx hcl
    obtain ⟨F1, iv1, s1, hc1⟩ := solidL_sound iv hc
    revert h
    generalize solidL cl H = q at *
    obtain ⟨cl', H1⟩ := q
    intro h
    simp only at h iv1 hc1
    split at h
    case h_2 => cases h
    rename_i y hdec
    split at h
    case h_2 => cases h
    rename_i ys H2 hrest
    injection h with h
    injection h with h2 h3
    subst h2 h3
    obtain ⟨c1, c2, e1, hd, hc2⟩ := dec_rep hdec hc1
    have : c2 = [] := List.length_eq_zero_iff.1 hc2.len
    subst this
    rw [List.append_nil] at e1
    obtain ⟨F2, iv2, s2, hsz, hds, hps⟩ := buildL_sound iv1 (fun i => s1.t (fun _ _ => trivial) (ht i)) hrest
    refine ⟨F2, iv2, s1.trans s2, ?_, ⟨c1, _, by simp [← e1], DRep.mono s2.f s2.w hd, hds⟩, by simp only [List.map_cons, List.zipIdx_cons, List.map_cons]; rw [← hps]⟩
    intro v hv
    rcases List.mem_cons.1 hv with rfl | hv
    · have := DRep.len hd
      rw [← e1] at this
      simpa using this
    · exact hsz v hv
theorem run_buildSlice0 (w : World) (t e : TypeId) (ie : TypeInfo) (hu : P.underlying t = some (.slice e)) (hie : P.info? e = some ie) :
    (Instr.buildSlice t 0 #[]).run P w = .ok (.slice (some ⟨w.heap.size, 0, none⟩) 0 0) (w.alloc (.cells #[] e)) := by
  simp [Instr.buildSlice, run_underlying hu, sizeOf, typeInfo, hie, newRow, Instr.fill]
  rw [show Array.range 0 = #[] from rfl, Array.map_empty]
theorem buildSliceK_sound {S : St} {a : Act} (hR : Rel w0 U S a w F hv) {t n : Nat} {parts : Array (Nat × Operand)} {k : T → St → Option R} (h : buildSliceK P t n parts.toList S k = some r) :
    ∃ x S' w' F' hv' v, k x S' = some r ∧ S'.t = S.t ∧ Rel w0 U S' a w' F' hv' ∧ RepT w' F' hv' v x ∧ (Instr.buildSlice t n (parts.map fun (i, x) => (i, a.eval x))).run P w = .ok v w' := by
  unfold buildSliceK at h
  split at h
  case h_2 => cases h
  rename_i e ty b he
  obtain ⟨i, z, hu, hi, hz, hzs, hs, hpos, _⟩ := elemTy_spec he
  split at h
  case isFalse => cases h
  rename_i hn
  obtain ⟨hl, hsm, hmx⟩ := hn
  split at h
  case h_2 => cases h
  rename_i l H1 hb
  obtain ⟨F1, iv1, s1, hsz, hds, hps⟩ := buildL_sound hR.iv hR.lk hb
  have hzz : (parts.map fun (i, x) => (i, a.eval x)).toList = ((parts.toList.map (fun p => a.eval p.2)).zipIdx 0).map (fun x => (x.2, x.1)) := by
    rw [Array.toList_map]
    conv => lhs; rw [hps]
    rw [List.map_map, List.zipIdx_map, List.map_map, List.zipIdx_map, List.map_map]
    rfl
  have hfill := Go.Great.fill_whole hpos (parts.toList.map (fun p => a.eval p.2)) ((Array.range (n * i.size)).map (z.cells[· % z.cells.size]!)) hsz (by simp [hl, hs])
  generalize hcs : ((parts.toList.map (fun p => a.eval p.2)).flatMap fun v => v.cells.toList) = cs at *
  have hlen : l.length = n := by
    have h1 := DReps.len hds
    have h2 : cs.length = n * ty.sz := by
      rw [← hcs, List.length_flatMap]
      have : ∀ v ∈ parts.toList.map (fun p => a.eval p.2), v.cells.toList.length = ty.sz := fun v hv => by simpa using hsz v hv
      rw [List.map_congr_left this, List.map_const', List.sum_replicate_nat, List.length_map, hl]
    rw [h2] at h1
    exact (Nat.eq_of_mul_eq_mul_right hpos h1).symm
  have hrun : (Instr.buildSlice t n (parts.map fun (i, x) => (i, a.eval x))).run P w = .ok (.slice (some ⟨w.heap.size, 0, none⟩) n n) (w.alloc (.cells cs.toArray e)) := by
    rcases Nat.eq_zero_or_pos n with hn0 | hn0
    · subst hn0
      have hp : parts = #[] := by
        apply Array.eq_empty_of_size_eq_zero
        rw [← Array.length_toList]; exact hl
      subst hp
      simp at hcs
      subst hcs
      simpa using run_buildSlice0 w t e i hu hi
    · refine run_buildSlice w t e n _ cs.toArray i z hu hi hz (by rw [hs]; omega) (by rw [hs]; exact Nat.ne_of_gt (Nat.mul_pos hn0 hpos)) ?_
      rw [hs, hzz, ← hs]
      rw [← hs] at hfill
      exact hfill
  have gr := grows_alloc (w := w) (F := F1) iv1.fb (.cells cs.toArray e)
  have iv2 := iv1.grows gr
  have hnew : (w.alloc (.cells cs.toArray e)).heap[w.heap.size]? = some (.cells cs.toArray e (0, 0)) := by show (w.heap.push _)[w.heap.size]? = _; simp
  have hcl : cs.length = n * ty.sz := by rw [DReps.len hds, hlen]
  have iv3 := iv2.push (v := .slice (some ⟨w.heap.size, 0, none⟩) n n) (B := .arr e ty l) w.heap.size iv1.size (fun g u C b h1 h2 h3 => (iv1.rep g u C h1 h2).own_lt h3)
    ⟨cs, ⟨by rw [hcl, hlen], .inr ⟨w.heap.size, n, cs.toArray, by rw [hlen], Nat.zero_le _, hnew, by omega, hmx, by simpa using hcl, by rw [hlen, ← hcl]; simp⟩⟩, hds.mono gr.f (fun b hb => gr.block b (iv1.fb b hb))⟩
    (fun g hg => by
      have : w.heap.size = g := by simpa [owns, vblocks, vblock, eq_comm] using hg.2
      subst this
      exact ⟨Nat.le_refl _, fun hf => Nat.lt_irrefl _ (iv1.fb _ hf)⟩) rfl
  have stt : Step w F hv (w.alloc (.cells cs.toArray e)) F1 (hv ++ [.slice (some ⟨w.heap.size, 0, none⟩) n n]) (fun _ => True) := (s1.trans (gr.step iv1.fb hv)).trans (Step.ext hv _)
  refine ⟨_, _, _, F1, _, _, h, rfl, hR.ext iv3 stt, ⟨?_, _, _, _, rfl⟩, hrun⟩
  rw [← iv1.len, List.getElem?_append_right (Nat.le_refl _)]
  simp
end
end Go.Proofs.YtcpimjekllkbkaaGreatDoor.E
namespace Go.Proofs.YtcpimjekllkbkaaGreatDoor.E
open Go.RowKit
section
variable {R : Type}
def castL (t' ty : Ty) (m : List t'.D) : Option (List ty.D) := if e : t' = ty then some (e ▸ m) else none
def srcOf (ty : Ty) (H : List Blk) (h : Nat) (x : C) : Option (List ty.D) :=
  match x with
  | .ns => some []
  | .fz t' m => castL t' ty m
  | .nz t' m => castL t' ty m
  | .ow g => if g = h then none else match H.getD g .gone with
    | .arr _ t' m => castL t' ty m
    | .fzd t' m => castL t' ty m
    | _ => none
  | _ => none
def appH (e : Nat) (ty : Ty) (bytes h : Nat) (x : C) (S : St) (k : T → St → Option R) : Option R :=
  match S.H.getD h .gone with
  | .arr e' t' l' => if e' = e then match castL t' ty l' with
    | some l => match srcOf ty S.H h x with
      | some m => if (l.length + m.length) * bytes ≤ 140737488355328 then k (.a (.c (.ow h))) ⟨S.n, S.t.map (fun p => (p.1, fT h p.2)), (S.H.map (fB h)).set h (.arr e ty (l ++ m))⟩ else none
      | none => none
    | none => none
    else none
  | _ => none
def appendK (P : Program) (t : Nat) (s x : C) (S : St) (k : T → St → Option R) : Option R :=
  match elemTy P t with
  | some (e, ty, bytes) => if 0 < bytes then match s with
      | .ns => appH e ty bytes S.H.length x ⟨S.n, S.t, S.H ++ [.arr e ty []]⟩ k
      | .ow h => appH e ty bytes h x S k
      | _ => none
    else none
  | none => none
variable {P : Program} {w0 w w' : World} {U : U0} {F F' : Nat → Prop} {hv : List Value} {H : List Blk} {r : R}
theorem castL_spec {t' ty : Ty} {m' : List t'.D} {m : List ty.D} (h : castL t' ty m' = some m) : ∃ e : t' = ty, m = e ▸ m' := by
  unfold castL at h
  split at h
  · rename_i e
    injection h with h
    exact ⟨e, h.symm⟩
  · cases h
def Reads (w : World) (F : Nat → Prop) (ty : Ty) (m : List ty.D) (v : Value) : Prop :=
  ∃ ad c cs, v = .slice ad m.length c ∧ DReps w F ty m cs ∧ (m = [] ∨ ∃ b o, ad = some ⟨b, o, none⟩ ∧ w.rangeAt b o cs)
theorem reads_fz {ty : Ty} {m : List ty.D} {v : Value} (h : DRep w F (.sl ty) m [v]) : Reads w F ty m v := by
  obtain ⟨ad, c, e, hc, hr⟩ := h
  injection e with e
  subst e
  rcases Rows.list hr with h | ⟨b, o, cs, rfl, hra, hd⟩
  · subst h
    exact ⟨ad, c, [], rfl, rfl, .inl rfl⟩
  · exact ⟨_, c, cs, rfl, hd, .inr ⟨b, o, rfl, hra⟩⟩
theorem reads_arr {ty : Ty} {e : Nat} {m : List ty.D} {v : Value} (h : BRep w F hv v (.arr e ty m)) : Reads w F ty m v := by
  obtain ⟨xs, ⟨hl, hr⟩, hd⟩ := h
  rcases hr with ⟨rfl, h0⟩ | ⟨g, cap, cur, rfl, _, hb, hle, hcap, hcur, htk⟩
  · have : m = [] := List.length_eq_zero_iff.1 h0
    subst this
    exact ⟨none, 0, [], rfl, rfl, .inl rfl⟩
  · refine ⟨_, cap, xs, rfl, hd, .inr ⟨g, 0, rfl, fun j v hv => ?_⟩⟩
    rw [← htk, List.getElem?_take] at hv
    split at hv
    · simpa using range_of_block hb 0 j v (by simpa using hv)
    · cases hv
theorem srcOf_sound (iv : Inv w0 U w F hv H) {ty : Ty} {h : Nat} {x : C} {m : List ty.D} (hs : srcOf ty H h x = some m) {v : Value} (hx : RepC w F hv v x) : Reads w F ty m v := by
  unfold srcOf at hs
  split at hs
  · injection hs with hs
    subst hs
    rw [show v = _ from hx]
    exact ⟨none, 0, [], rfl, rfl, .inl rfl⟩
  · obtain ⟨rfl, rfl⟩ := castL_spec hs
    exact reads_fz hx
  · obtain ⟨rfl, rfl⟩ := castL_spec hs
    exact reads_fz hx.1
  · split at hs
    · cases hs
    · split at hs
      · rename_i hH
        obtain ⟨rfl, rfl⟩ := castL_spec hs
        exact reads_arr (iv.rep _ _ _ hx.1 (getD_some hH (by simp)))
      · rename_i hH
        obtain ⟨rfl, rfl⟩ := castL_spec hs
        exact reads_fz (iv.rep _ _ _ hx.1 (getD_some hH (by simp)))
      · cases hs
  · cases hs
theorem append_none_run {t ty e : Nat} {i : TypeInfo} {size : Nat} (ht : P.underlying t = some (.slice e)) (hi : P.info? e = some i) {v : Value} {n c : Nat} {xs : List Value} (hown : w.ownsRow 0 e size v n xs) :
    (Builtin.append_ #[t, t] ty #[v, .slice none 0 c]).run P w = .ok v w := by
  rcases hown.2 with ⟨rfl, rfl⟩ | ⟨g, cap, cur, rfl, _, _, hnc, _⟩
  · simp [Builtin.append_, run_underlying ht, sizeOf, typeInfo, hi, Builtin.lenOf, Builtin.firstCells]
  · simp [Builtin.append_, run_underlying ht, sizeOf, typeInfo, hi, Builtin.lenOf, Builtin.firstCells, hnc, storeCells]
theorem appH_sound {S : St} {a : Act} (hR : Rel w0 U S a w F hv) {t e : Nat} {ty : Ty} {bytes : Nat} (he : elemTy P t = some (e, ty, bytes)) (hb0 : 0 < bytes) {h : Nat} {x : C} {k : T → St → Option R} (hk : appH e ty bytes h x S k = some r)
    {vs vx : Value} (hs : hv[h]? = some vs) (hx : RepC w F hv vx x) (rt : Nat) :
    ∃ z S' w' hv' v, k z S' = some r ∧ Rel w0 U S' a w' F hv' ∧ RepT w' F hv' v z ∧ (Builtin.append_ #[t, t] rt #[vs, vx]).run P w = .ok v w' := by
  obtain ⟨i, z, hu, hi, hz, hzs, hsz, hpos, hby⟩ := elemTy_spec he
  unfold appH at hk
  split at hk
  case h_2 => cases hk
  rename_i e' t' l' hH
  split at hk
  case isFalse => cases hk
  rename_i ee
  subst ee
  split at hk
  case h_2 => cases hk
  rename_i l hl
  obtain ⟨rfl, rfl⟩ := castL_spec hl
  split at hk
  case h_2 => cases hk
  rename_i m hm
  split at hk
  case isFalse => cases hk
  rename_i hbound
  have hB := getD_some hH (by simp)
  obtain ⟨xs, hown, hd⟩ := hR.iv.rep h _ _ hs hB
  obtain ⟨ad, c, news, rfl, hdn, hrd⟩ := srcOf_sound hR.iv hm hx
  have hnl : news.length = m.length * t'.sz := DReps.len hdn
  have main : ∃ v' w', (Builtin.append_ #[t, t] rt #[vs, .slice ad m.length c]).run P w = .ok v' w' ∧ w'.ownsRow 0 e' t'.sz v' (l.length + m.length) (xs ++ news) ∧ w.grownBy w' vs.ownBlock ∧ (v'.ownBlock = vs.ownBlock ∨ v'.ownBlock = some w.heap.size) := by
    have hmx : l.length + m.length ≤ maxLen := by
      have : l.length + m.length ≤ (l.length + m.length) * bytes := Nat.le_mul_of_pos_right _ hb0
      simp only [maxLen]
      have hb' : (l.length + m.length) * bytes ≤ 140737488355328 := hbound
      omega
    cases ad with
    | none =>
      have hm0 : m = [] := by
        rcases hrd with h | ⟨b, o, h, _⟩
        · exact h
        · cases h
      subst hm0
      have hn0 : news = [] := hdn
      subst hn0
      exact ⟨vs, w, append_none_run hu hi hown, by simpa using hown, ⟨rfl, rfl, rfl, Nat.le_refl _, fun _ _ _ => rfl⟩, .inl rfl⟩
    | some ad =>
      have hnews : ∀ j u, news[j]? = some u → w.cell? (ad.add j) = some u := by
        rcases hrd with h | ⟨b, o, h, hra⟩
        · subst h
          have hn0 : news = [] := hdn
          subst hn0
          intro j u hj
          simp at hj
        · cases h
          intro j u hj
          rw [Addr.add_mid]
          exact hra j u hj
      obtain ⟨v', w', h1, h2, h3, _, h5⟩ := run_append_own_at (P := P) w 0 t rt e' i z t'.sz bytes hu hi hz hsz hby hzs hpos vs l.length xs hown ad m.length c news hnl hnews (DReps.one hdn) hmx hbound (Nat.zero_le _)
      exact ⟨v', w', h1, h2, h3, h5⟩
  obtain ⟨v', w', hrun, hown', hg, hblk⟩ := main
  have vb : ∀ {u : Value} {n : Nat} {ys : List Value} {W : World}, W.ownsRow 0 e' t'.sz u n ys → vblocks u = u.ownBlock.toList := by
    intro u n ys W ho
    rcases ho.2 with ⟨rfl, _⟩ | ⟨g, cap, cur, rfl, _⟩ <;> rfl
  have ivf := hR.iv.forget h
  have hBf : (S.H.map (fB h))[h]? = some (.arr e' t' l) := by rw [List.getElem?_map, hB]; rfl
  have hFk : ∀ b, F b → w'.heap[b]? = w.heap[b]? := fun b hb => hg.block b (hR.iv.fb b hb) (fun e => (hR.iv.own h _ _ b hs hB ⟨rfl, by rw [vb hown, ← e]; simp⟩).1 hb)
  have iv2 := ivf.upd (w' := w') (F' := F) (v' := v') (B' := .arr e' t' (l ++ m)) hs hBf hg.os hg.tape hg.output hg.size
    (fun k hk hno => hg.block k hk (fun e => hno ⟨rfl, by rw [vb hown, ← e]; simp⟩)) (fun _ h => h) (fun _ h => .inl h)
    (.inr fun g u C h1 h2 hne => by
      rw [List.getElem?_map] at h2
      cases e2 : S.H[g]? with
      | none => rw [e2] at h2; cases h2
      | some B2 => rw [e2] at h2; simp at h2; subst h2; exact fB_refs h B2)
    ⟨xs ++ news, by simpa using hown', (DReps.app hd hdn).mono (fun _ h => h) hFk⟩
    (fun g hg' => by
      have hb : v'.ownBlock = some g := by have := hg'.2; rw [vb hown'] at this; simpa using this
      rcases hblk with e1 | e1
      · have ho : owns vs (.arr e' t' l) g := ⟨rfl, by rw [vb hown, ← e1]; rw [hb]; simp⟩
        exact ⟨(hR.iv.own h _ _ g hs hB ho).1, .inl ho⟩
      · have : g = w.heap.size := by rw [hb] at e1; exact Option.some.inj e1
        subst this
        exact ⟨fun hf => Nat.lt_irrefl _ (hR.iv.fb _ hf), .inr (Nat.le_refl _)⟩) (fun h => by cases h)
  have st : Step w F hv w' F (hv.set h v') (fun g => g ≠ h) := ⟨fun _ h => h, hFk, fun g hne u hu' => by rw [List.getElem?_set_ne (Ne.symm hne)]; exact hu'⟩
  have hlt : h < hv.length := (List.getElem?_eq_some_iff.1 hs).1
  refine ⟨_, _, w', hv.set h v', v', hk, ⟨hR.sz, fun p hp => ?_, hR.df, iv2⟩, ⟨by rw [List.getElem?_set_self hlt], ?_⟩, hrun⟩
  · obtain ⟨q, hq, rfl⟩ := List.mem_map.1 hp
    exact st.t (fun g hg' => fun e => by subst e; exact fT_hs _ _ hg') (fT_rep (hR.tm q hq))
  · rcases hown'.2 with ⟨rfl, _⟩ | ⟨g, cap, cur, rfl, _⟩
    · exact ⟨_, _, _, rfl⟩
    · exact ⟨_, _, _, rfl⟩
theorem appendK_sound {S : St} {a : Act} (hR : Rel w0 U S a w F hv) {t : Nat} {s x : C} {k : T → St → Option R} (hk : appendK P t s x S k = some r)
    {vs vx : Value} (hs : RepC w F hv vs s) (hx : RepC w F hv vx x) (rt : Nat) :
    ∃ z S' w' hv' v, k z S' = some r ∧ Rel w0 U S' a w' F hv' ∧ RepT w' F hv' v z ∧ (Builtin.append_ #[t, t] rt #[vs, vx]).run P w = .ok v w' := by
  unfold appendK at hk
  split at hk
  case h_2 => cases hk
  rename_i e ty bytes he
  split at hk
  case isFalse => cases hk
  rename_i hb
  split at hk
  · have hvn : vs = .slice none 0 0 := hs
    subst hvn
    have iv1 := hR.iv.nilrow e ty
    have hR1 := hR.ext iv1 (Step.ext hv _)
    refine appH_sound hR1 he hb hk ?_ ((Step.ext hv _).c (fun _ _ => trivial) hx) rt
    rw [← hR.iv.len, List.getElem?_append_right (Nat.le_refl _)]
    simp
  · exact appH_sound hR he hb hk hs.1 hx rt
  · cases hk
/-- the bytes of a row as a text -/
def bytesK (P : Program) (H : List Blk) (src dst : Nat) (x : C) (k : C → Option R) : Option R :=
  match P.underlying src, P.underlying dst with
  | some (.slice e), some .string => match P.underlying e, srcOf (.int .u8) H H.length x with
    | some (.int .u8), some l => k (.s (strOfNums l))
    | _, _ => none
  | _, _ => convK P src dst x k
theorem DReps.ints {K : IntKind} : ∀ {l : List Int} {cs : List Value}, DReps w F (.int K) l cs → cs = l.map (Value.int K)
  | [], _, h => h
  | x :: l, _, ⟨c1, c2, e, h1, h2⟩ => by rw [e, show c1 = _ from h1, DReps.ints h2]; rfl
theorem bytesK_sound (iv : Inv w0 U w F hv H) {src dst : Nat} {x : C} {k : C → Option R} (h : bytesK P H src dst x k = some r) {vx : Value} (hx : RepC w F hv vx x) : ∃ c v, k c = some r ∧ RepC w F hv v c ∧ (convert src dst vx).run P w = .ok v w := by
  unfold bytesK at h
  split at h
  · rename_i e h1 h2
    split at h
    · rename_i l h3 h4
      obtain ⟨ad, c, cs, rfl, hd, hr⟩ := srcOf_sound iv h4 hx
      refine ⟨_, _, h, rfl, ?_⟩
      have hcs := DReps.ints hd
      have zero : l = [] → (convert src dst (.slice ad l.length c)).run P w = .ok (.string (strOfNums l)) w := by
        rintro rfl
        cases ad with
        | none => exact run_convert_bytes_nil w src e h1 h3 _ _ dst h2
        | some a =>
          rw [run_convert_bytes_string w src dst e _ _ c h1 h3 h2]
          exact run_bytesToString w a 0 c [] (run_loadCells_list (P := P) w a [] (fun j v h => by simp at h))
      rcases hr with hr | ⟨b, o, rfl, hra⟩
      · exact zero hr
      · refine run_convert_bytes_arg w src e h1 h3 b o l.length c l rfl (fun i hi => ?_) dst h2
        refine hra i _ ?_
        rw [hcs, List.getElem?_map, List.getElem?_eq_getElem hi]
        simp [List.getD_eq_getElem?_getD, List.getElem?_eq_getElem hi]
    · cases h
  · exact convK_sound h hx
end
end Go.Proofs.YtcpimjekllkbkaaGreatDoor.E
namespace Go.Proofs.YtcpimjekllkbkaaGreatDoor.E
open Go.RowKit
/-! # 6a. A part of one's own memory, renumbered: what a call is handed, what it hands back -/
def memN : List Nat → Nat → Bool
  | [], _ => false
  | x :: r, h => Nat.beq x h || memN r h
def nodupN : List Nat → Bool
  | [] => true
  | x :: r => !memN r x && nodupN r
def pos : List Nat → Nat → Option Nat
  | [], _ => none
  | x :: r, h => bif Nat.beq x h then some 0 else match pos r h with
    | some i => some (i + 1)
    | none => none
def mapHs (m : Nat → Option Nat) : List Nat → Option (List Nat)
  | [] => some []
  | h :: r => match m h with
    | some i => match mapHs m r with
      | some l => some (i :: l)
      | none => none
    | none => none
def mapC (m : Nat → Option Nat) : C → C
  | .fn f hs => match mapHs m hs with
    | some l => .fn f l
    | none => .un
  | .mp h => match m h with
    | some i => .mp i
    | none => .un
  | .ow h => match m h with
    | some i => .ow i
    | none => .un
  | .pt h o => match m h with
    | some i => .pt i o
    | none => .un
  | .po h i sz o => match m h with
    | some j => .po j i sz o
    | none => .un
  | .pm h i o => match m h with
    | some j => .pm j i o
    | none => .un
  | c => c
def mapA (m : Nat → Option Nat) : A → A
  | .c x => .c (mapC m x)
  | .ag l => .ag (l.map (mapC m))
def mapT (m : Nat → Option Nat) : T → T
  | .a x => .a (mapA m x)
  | .tu l => .tu (l.map (mapA m))
def mapB (m : Nat → Option Nat) : Blk → Blk
  | .box pn t c => .box pn t (c.map (mapC m))
  | B => B
/-- a handle's row that has become data -/
def thC (H : List Blk) : C → C
  | .ow h => match H.getD h .gone with
    | .fzd t l => .fz t l
    | _ => .ow h
  | c => c
def thA (H : List Blk) : A → A
  | .c x => .c (thC H x)
  | .ag l => .ag (l.map (thC H))
def thB (H : List Blk) : Blk → Blk
  | .box pn t c => .box pn t (c.map (thC H))
  | B => B
def setP (b : Bool) : Blk → Blk
  | .box _ t c => .box b t c
  | B => B
def closeK (H : List Blk) : Nat → List Nat → List Nat → List Nat
  | 0, _, acc => acc
  | _ + 1, [], acc => acc
  | n + 1, h :: r, acc => bif memN acc h then closeK H n r acc else closeK H n ((thB H (H.getD h .gone)).refs ++ r) (acc ++ [h])
def pickB (m : Nat → Option Nat) (H : List Blk) (b : Nat → Blk → Bool) : Nat → List Nat → List Blk
  | _, [] => []
  | i, h :: r => setP (b i (H.getD h .gone)) (mapB m (thB H (H.getD h .gone))) :: pickB m H b (i + 1) r
def keepN (sel : List Nat) (HN : List Blk) (h : Nat) : Option Nat :=
  match pos sel h with
  | none => some h
  | some p => bif (HN.getD p .gone).pn then some h else none
def backN (sel : List Nat) (N : Nat) (i : Nat) : Option Nat :=
  match sel[i]? with
  | some h => some h
  | none => some (N + (i - sel.length))
def mergeB (sel : List Nat) (N : Nat) (HN : List Blk) : Nat → List Blk → List Blk
  | _, [] => []
  | i, B :: r => (match pos sel i with
      | some p => setP (B.pn && (HN.getD p .gone).pn) (mapB (backN sel N) (HN.getD p .gone))
      | none => mapB (keepN sel HN) B) :: mergeB sel N HN (i + 1) r
def hvOf (hv : List Value) (sel : List Nat) : List Value := sel.map fun h => hv.getD h undef
def okSel (sel : List Nat) (n : Nat) : Bool := nodupN sel && sel.all fun h => Nat.blt h n
/-- what one may change, when one is handed these -/
def ownsU (hv : List Value) (H : List Blk) : Nat → Prop := fun g => ∃ (h : Nat) (v : Value) (B : Blk), hv[h]? = some v ∧ H[h]? = some B ∧ owns v B g
def uOf (hv : List Value) (H : List Blk) (F : Nat → Prop) : U0 := ⟨ownsU hv H, F, fun h v => hv[h]? = some v⟩
section
variable {w0 w w' : World} {U : U0} {F F' : Nat → Prop} {hv hv' : List Value} {H : List Blk}
theorem mem_of_memN : ∀ {l : List Nat} {h : Nat}, memN l h = false → h ∉ l
  | [], _, _ => by simp
  | x :: r, h, e => by
    simp only [memN, Bool.or_eq_false_iff] at e
    rintro hm
    rcases List.mem_cons.1 hm with rfl | hm
    · exact beq_ne e.1 rfl
    · exact mem_of_memN e.2 hm
theorem nodup_of : ∀ {l : List Nat}, nodupN l = true → l.Nodup
  | [], _ => List.nodup_nil
  | x :: r, h => by
    simp only [nodupN, Bool.and_eq_true, Bool.not_eq_true'] at h
    exact List.nodup_cons.2 ⟨mem_of_memN h.1, nodup_of h.2⟩
theorem okSel_of {sel : List Nat} {n : Nat} (h : okSel sel n = true) : sel.Nodup ∧ ∀ h ∈ sel, h < n := by
  simp only [okSel, Bool.and_eq_true, List.all_eq_true] at h
  exact ⟨nodup_of h.1, fun x hx => Nat.le_of_ble_eq_true (h.2 x hx)⟩
theorem pos_get : ∀ {l : List Nat} {h i : Nat}, pos l h = some i → l[i]? = some h
  | [], _, _, e => by cases e
  | x :: r, h, i, e => by
    simp only [pos] at e
    cases hx : Nat.beq x h with
    | true =>
      rw [hx] at e
      injection e with e
      subst e
      rw [Nat.eq_of_beq_eq_true hx]
      rfl
    | false =>
      rw [hx] at e
      simp only [cond_false] at e
      split at e
      · rename_i j hj
        injection e with e
        subst e
        simpa using pos_get hj
      · cases e
theorem pos_none : ∀ {l : List Nat} {h : Nat}, pos l h = none → h ∉ l
  | [], _, _ => by simp
  | x :: r, h, e => by
    simp only [pos] at e
    cases hx : Nat.beq x h with
    | true => rw [hx] at e; cases e
    | false =>
      rw [hx] at e
      simp only [cond_false] at e
      split at e
      · cases e
      · rename_i hj
        intro hm
        rcases List.mem_cons.1 hm with rfl | hm
        · exact beq_ne hx rfl
        · exact pos_none hj hm
theorem get_pos {l : List Nat} (nd : l.Nodup) {h i : Nat} (e : l[i]? = some h) : pos l h = some i := by
  cases hp : pos l h with
  | none => exact absurd (List.mem_of_getElem? e) (pos_none hp)
  | some j =>
    have h1 := pos_get hp
    have l1 := (List.getElem?_eq_some_iff.1 e).1
    rw [(List.getElem?_inj l1 nd).1 (e.trans h1.symm)]
theorem mapHs_rep {m : Nat → Option Nat} (hm : ∀ h i v, m h = some i → hv[h]? = some v → hv'[i]? = some v) : ∀ {caps : List Value} {hs l : List Nat}, mapHs m hs = some l → All2 (fun u h => ∃ g, hv[h]? = some (.pointer (some ⟨g, 0, none⟩)) ∧ u = .pointer (some ⟨g, 0, none⟩)) caps hs →
    All2 (fun u h => ∃ g, hv'[h]? = some (.pointer (some ⟨g, 0, none⟩)) ∧ u = .pointer (some ⟨g, 0, none⟩)) caps l
  | [], [], l, e, _ => by simp only [mapHs, Option.some.injEq] at e; subst e; trivial
  | c :: caps, h :: hs, l, e, ha => by
    simp only [mapHs] at e
    split at e
    · rename_i i hi
      split at e
      · rename_i l' hl
        injection e with e
        subst e
        obtain ⟨⟨g, h1, h2⟩, h3⟩ := ha
        exact ⟨⟨g, hm _ _ _ hi h1, h2⟩, mapHs_rep hm hl h3⟩
      · cases e
    · cases e
  | [], _ :: _, _, _, ha => ha.elim
  | _ :: _, [], _, _, ha => ha.elim
theorem mapC_rep {m : Nat → Option Nat} (hm : ∀ h i v, m h = some i → hv[h]? = some v → hv'[i]? = some v) {c : C} {v : Value} (h : RepC w F hv v c) : RepC w F hv' v (mapC m c) := by
  cases c with
  | ow g =>
    simp only [mapC]
    split
    · rename_i i hi; exact ⟨hm _ _ _ hi h.1, h.2⟩
    · trivial
  | pt g o =>
    simp only [mapC]
    obtain ⟨b, h1, h2⟩ := h
    split
    · rename_i i hi; exact ⟨b, hm _ _ _ hi h1, h2⟩
    · trivial
  | po g i sz o =>
    simp only [mapC]
    obtain ⟨b, n, c, h1, h2⟩ := h
    split
    · rename_i i hi; exact ⟨b, n, c, hm _ _ _ hi h1, h2⟩
    · trivial
  | pm g i o =>
    simp only [mapC]
    obtain ⟨l, b, h1, h2⟩ := h
    split
    · rename_i i hi; exact ⟨l, b, hm _ _ _ hi h1, h2⟩
    · trivial
  | fn f hs =>
    simp only [mapC]
    obtain ⟨caps, h1, h2⟩ := h
    split
    · rename_i l hl; exact ⟨caps, h1, mapHs_rep hm hl h2⟩
    · trivial
  | mp g =>
    simp only [mapC]
    obtain ⟨b, ps, h1, h2⟩ := h
    split
    · rename_i i hi; exact ⟨b, ps, hm _ _ _ hi h1, h2⟩
    · trivial
  | _ => exact h
theorem mapA_rep {m : Nat → Option Nat} (hm : ∀ h i v, m h = some i → hv[h]? = some v → hv'[i]? = some v) {x : A} {v : Value} (h : RepA w F hv v x) : RepA w F hv' v (mapA m x) := by
  cases x with
  | c x => exact mapC_rep hm h
  | ag l => obtain ⟨cs, e, hc⟩ := h; exact ⟨cs, e, All2.map (R := RepC w F hv) (Q := RepC w F hv') (f := mapC m) (fun _ _ hh => mapC_rep hm hh) hc⟩
theorem mapAs_rep {m : Nat → Option Nat} (hm : ∀ h i v, m h = some i → hv[h]? = some v → hv'[i]? = some v) {x : List A} {v : List Value} (h : All2 (RepA w F hv) v x) : All2 (RepA w F hv') v (x.map (mapA m)) :=
  All2.map (R := RepA w F hv) (Q := RepA w F hv') (f := mapA m) (fun _ _ hh => mapA_rep hm hh) h
theorem mapT_rep {m : Nat → Option Nat} (hm : ∀ h i v, m h = some i → hv[h]? = some v → hv'[i]? = some v) {x : T} {v : Value} (h : RepT w F hv v x) : RepT w F hv' v (mapT m x) := by
  cases x with
  | a x => exact mapA_rep hm h
  | tu l => obtain ⟨cs, e, hc⟩ := h; exact ⟨cs, e, mapAs_rep hm hc⟩
theorem mapB_rep {m : Nat → Option Nat} (hm : ∀ h i v, m h = some i → hv[h]? = some v → hv'[i]? = some v) {B : Blk} {v : Value} (h : BRep w F hv v B) : BRep w F hv' v (mapB m B) := by
  cases B with
  | box pn t c => obtain ⟨b, cs, e, hb, hc⟩ := h; exact ⟨b, cs, e, hb, All2.map (R := RepC w F hv) (Q := RepC w F hv') (f := mapC m) (fun _ _ hh => mapC_rep hm hh) hc⟩
  | _ => exact h
/-- all handles keep their places -/
theorem mapT_some (hm : ∀ (i : Nat) (v : Value), hv[i]? = some v → hv'[i]? = some v) {x : T} {v : Value} (h : RepT w F hv v x) : RepT w F hv' v x :=
  (show Step w F hv w F hv' (fun _ => True) from ⟨fun _ h => h, fun _ _ => rfl, fun i _ u hu => hm i u hu⟩).t (fun _ _ => trivial) h
theorem thC_rep (iv : Inv w0 U w F hv H) {c : C} {v : Value} (h : RepC w F hv v c) : RepC w F hv v (thC H c) := by
  cases c with
  | ow g =>
    simp only [thC]
    split
    · rename_i t l hH
      exact iv.rep g _ _ h.1 (getD_some hH (by simp))
    · exact h
  | _ => exact h
theorem thA_rep (iv : Inv w0 U w F hv H) {x : A} {v : Value} (h : RepA w F hv v x) : RepA w F hv v (thA H x) := by
  cases x with
  | c x => exact thC_rep iv h
  | ag l => obtain ⟨cs, e, hc⟩ := h; exact ⟨cs, e, All2.map (R := RepC w F hv) (Q := RepC w F hv) (f := thC H) (fun _ _ hh => thC_rep iv hh) hc⟩
theorem thAs_rep (iv : Inv w0 U w F hv H) {x : List A} {v : List Value} (h : All2 (RepA w F hv) v x) : All2 (RepA w F hv) v (x.map (thA H)) :=
  All2.map (R := RepA w F hv) (Q := RepA w F hv) (f := thA H) (fun _ _ hh => thA_rep iv hh) h
theorem thB_rep (iv : Inv w0 U w F hv H) {B : Blk} {v : Value} (h : BRep w F hv v B) : BRep w F hv v (thB H B) := by
  cases B with
  | box pn t c => obtain ⟨b, cs, e, hb, hc⟩ := h; exact ⟨b, cs, e, hb, All2.map (R := RepC w F hv) (Q := RepC w F hv) (f := thC H) (fun _ _ hh => thC_rep iv hh) hc⟩
  | _ => exact h
theorem setP_rep {B : Blk} {b : Bool} {v : Value} (h : BRep w F hv v B) : BRep w F hv v (setP b B) := by
  cases B <;> exact h
theorem mapB_own (m : Nat → Option Nat) (B : Blk) : (mapB m B).own = B.own := by cases B <;> rfl
theorem thB_own (B : Blk) : (thB H B).own = B.own := by cases B <;> rfl
theorem setP_own (b : Bool) (B : Blk) : (setP b B).own = B.own := by cases B <;> rfl
theorem mapB_pn (m : Nat → Option Nat) (B : Blk) : (mapB m B).pn = B.pn := by cases B <;> rfl
theorem setP_pn {b : Bool} {B : Blk} (h : (setP b B).pn = true) : b = true := by cases B <;> first | exact h | cases h
theorem owns_of {v : Value} {B B' : Blk} (e : B'.own = B.own) {g : Nat} (h : owns v B' g) : owns v B g := ⟨e ▸ h.1, h.2⟩
theorem pickB_get {m : Nat → Option Nat} {b : Nat → Blk → Bool} : ∀ {l : List Nat} {i j : Nat} {B : Blk}, (pickB m H b i l)[j]? = some B → ∃ h, l[j]? = some h ∧ B = setP (b (i + j) (H.getD h .gone)) (mapB m (thB H (H.getD h .gone)))
  | [], _, _, _, e => by simp [pickB] at e
  | h :: r, i, 0, B, e => by
    simp only [pickB, List.getElem?_cons_zero, Option.some.injEq] at e
    exact ⟨h, rfl, e.symm⟩
  | h :: r, i, j + 1, B, e => by
    obtain ⟨h', e1, e2⟩ := pickB_get (l := r) (i := i + 1) (j := j) (by simpa [pickB] using e)
    exact ⟨h', by simpa using e1, by rw [e2, show i + 1 + j = i + (j + 1) from by omega]⟩
theorem pickB_len {m : Nat → Option Nat} {b : Nat → Blk → Bool} : ∀ {l : List Nat} {i : Nat}, (pickB m H b i l).length = l.length
  | [], _ => rfl
  | _ :: r, _ => by simp [pickB, pickB_len (l := r)]
theorem hvOf_get {sel : List Nat} (lt : ∀ h ∈ sel, h < hv.length) {j : Nat} {v : Value} (e : (hvOf hv sel)[j]? = some v) : ∃ h, sel[j]? = some h ∧ hv[h]? = some v := by
  unfold hvOf at e
  rw [List.getElem?_map] at e
  cases hs : sel[j]? with
  | none => rw [hs] at e; cases e
  | some h =>
    rw [hs] at e
    have hl := lt h (List.mem_of_getElem? hs)
    simp only [Option.map_some, Option.some.injEq, List.getD_eq_getElem?_getD, List.getElem?_eq_getElem hl, Option.getD_some] at e
    exact ⟨h, rfl, by rw [List.getElem?_eq_getElem hl, e]⟩
theorem get_hvOf {sel : List Nat} {j h : Nat} {v : Value} (hs : sel[j]? = some h) (e : hv[h]? = some v) : (hvOf hv sel)[j]? = some v := by
  unfold hvOf
  rw [List.getElem?_map, hs]
  simp [List.getD_eq_getElem?_getD, e]
theorem pos_hvOf {sel : List Nat} : ∀ h i v, pos sel h = some i → hv[h]? = some v → (hvOf hv sel)[i]? = some v := fun _ _ _ e1 e2 => get_hvOf (pos_get e1) e2
/-- a part of what is one's own -/
theorem Inv.pick (iv : Inv w0 U w F hv H) {sel : List Nat} (nd : sel.Nodup) (lt : ∀ h ∈ sel, h < H.length) (b : Nat → Blk → Bool)
    (hp : ∀ j h v, sel[j]? = some h → hv[h]? = some v → b j (H.getD h .gone) = true → U.p j v) : Inv w0 U w F (hvOf hv sel) (pickB (pos sel) H b 0 sel) := by
  have lt' : ∀ h ∈ sel, h < hv.length := fun h hh => by rw [iv.len]; exact lt h hh
  have at_ : ∀ {j : Nat} {v : Value} {B : Blk}, (hvOf hv sel)[j]? = some v → (pickB (pos sel) H b 0 sel)[j]? = some B → ∃ h B0, sel[j]? = some h ∧ hv[h]? = some v ∧ H[h]? = some B0 ∧ B = setP (b j B0) (mapB (pos sel) (thB H B0)) := by
    intro j v B h1 h2
    obtain ⟨h, e1, e2⟩ := hvOf_get lt' h1
    obtain ⟨h', e3, e4⟩ := pickB_get h2
    rw [e1] at e3
    injection e3 with e3
    subst e3
    have hl := lt h (List.mem_of_getElem? e1)
    refine ⟨h, H[h], e1, e2, List.getElem?_eq_getElem hl, ?_⟩
    rw [e4, List.getD_eq_getElem?_getD, List.getElem?_eq_getElem hl, Option.getD_some, Nat.zero_add]
  have own : ∀ {v : Value} {B0 : Blk} {c : Bool} {g : Nat}, owns v (setP c (mapB (pos sel) (thB H B0))) g → owns v B0 g := fun ho => owns_of (by rw [setP_own, mapB_own, thB_own]) ho
  refine ⟨iv.os, iv.tape, iv.output, iv.size, iv.old, iv.fb, iv.f0, iv.f1, by simp [hvOf, pickB_len], fun j v B h1 h2 => ?_, fun j v B g h1 h2 h3 => ?_, fun j j' v v' B B' g h1 h2 h1' h2' h3 h3' => ?_, fun j v B h1 h2 h3 => ?_, iv.lay⟩
  · obtain ⟨h, B0, e1, e2, e3, rfl⟩ := at_ h1 h2
    exact setP_rep (mapB_rep pos_hvOf (thB_rep iv (iv.rep h v B0 e2 e3)))
  · obtain ⟨h, B0, e1, e2, e3, rfl⟩ := at_ h1 h2
    exact iv.own h v B0 g e2 e3 (own h3)
  · obtain ⟨h, B0, e1, e2, e3, rfl⟩ := at_ h1 h2
    obtain ⟨h', B0', e1', e2', e3', rfl⟩ := at_ h1' h2'
    have := iv.dis h h' v v' B0 B0' g e2 e3 e2' e3' (own h3) (own h3')
    subst this
    exact (List.getElem?_inj (List.getElem?_eq_some_iff.1 e1).1 nd).1 (e1.trans e1'.symm)
  · obtain ⟨h, B0, e1, e2, e3, rfl⟩ := at_ h1 h2
    exact hp j h v e1 e2 (by rw [List.getD_eq_getElem?_getD, e3]; exact setP_pn h3)
theorem Inv.start (iv : Inv w0 U w F hv H) : Inv w (uOf hv H F) w F hv H :=
  ⟨rfl, rfl, rfl, Nat.le_refl _, fun _ _ _ => rfl, iv.fb, fun _ h => h, fun _ h => .inl h, iv.len, iv.rep, fun h v B g h1 h2 h3 => ⟨(iv.own h v B g h1 h2 h3).1, .inr ⟨h, v, B, h1, h2, h3⟩⟩, iv.dis, fun _ _ _ h1 _ _ => h1, ⟨iv.layC, iv.layF, fun g hg ⟨h, v, B, h1, h2, h3⟩ => (iv.own h v B g h1 h2 h3).1 (iv.layF g hg), fun g hg => iv.fb g (iv.layF g hg)⟩⟩
theorem Inv.setU (iv : Inv w0 U w F hv H) : Inv w0 ⟨U.u, U.f, fun _ _ => True⟩ w F hv H :=
  ⟨iv.os, iv.tape, iv.output, iv.size, iv.old, iv.fb, iv.f0, iv.f1, iv.len, iv.rep, iv.own, iv.dis, fun _ _ _ _ _ _ => trivial, ⟨iv.lay.c, iv.lay.f, iv.lay.u, iv.lay.s⟩⟩
/-- what a call is handed -/
theorem Inv.hand (iv : Inv w0 U w F hv H) {sel : List Nat} (nd : sel.Nodup) (lt : ∀ h ∈ sel, h < H.length) :
    Inv w (uOf (hvOf hv sel) (pickB (pos sel) H (fun _ _ => true) 0 sel) F) w F (hvOf hv sel) (pickB (pos sel) H (fun _ _ => true) 0 sel) :=
  (iv.setU.pick nd lt (fun _ _ => true) (fun _ _ _ _ _ _ => trivial)).start
theorem mergeB_get {sel : List Nat} {N : Nat} {HN : List Blk} : ∀ {l : List Blk} {i j : Nat} {B : Blk}, (mergeB sel N HN i l)[j]? = some B → ∃ B0, l[j]? = some B0 ∧
    ((∃ p, pos sel (i + j) = some p ∧ B = setP (B0.pn && (HN.getD p .gone).pn) (mapB (backN sel N) (HN.getD p .gone))) ∨ (pos sel (i + j) = none ∧ B = mapB (keepN sel HN) B0))
  | [], _, _, _, e => by simp [mergeB] at e
  | B0 :: r, i, 0, B, e => by
    simp only [mergeB, List.getElem?_cons_zero, Option.some.injEq] at e
    refine ⟨B0, rfl, ?_⟩
    rw [Nat.add_zero]
    split at e
    · rename_i p hp; exact .inl ⟨p, hp, e.symm⟩
    · rename_i hp; exact .inr ⟨hp, e.symm⟩
  | B0 :: r, i, j + 1, B, e => by
    obtain ⟨B1, e1, e2⟩ := mergeB_get (l := r) (i := i + 1) (j := j) (by simpa [mergeB] using e)
    exact ⟨B1, by simpa using e1, by rw [show i + (j + 1) = i + 1 + j from by omega]; exact e2⟩
theorem mergeB_len {sel : List Nat} {N : Nat} {HN : List Blk} : ∀ {l : List Blk} {i : Nat}, (mergeB sel N HN i l).length = l.length
  | [], _ => rfl
  | _ :: r, _ => by simp [mergeB, mergeB_len (l := r)]
end
end Go.Proofs.YtcpimjekllkbkaaGreatDoor.E
namespace Go.Proofs.YtcpimjekllkbkaaGreatDoor.E
open Go.RowKit
section
variable {w0 w w' : World} {U : U0} {F F' : Nat → Prop} {hv hv' : List Value} {H : List Blk}
/-- blocks and handles behind a call -/
def newB (sel : List Nat) (H HN : List Blk) : List Blk := mergeB sel H.length HN 0 H ++ (HN.drop sel.length).map fun B => setP false (mapB (backN sel H.length) B)
def newV (sel : List Nat) (hv hvN : List Value) : List Value := ((List.range hv.length).map fun h => match pos sel h with
  | some p => hvN.getD p undef
  | none => hv.getD h undef) ++ hvN.drop sel.length
theorem newV_at {sel : List Nat} {hvN : List Value} {j : Nat} {u : Value} (hle : sel.length ≤ hvN.length) (e : (newV sel hv hvN)[j]? = some u) :
    (j < hv.length ∧ ∃ p, pos sel j = some p ∧ hvN[p]? = some u) ∨ (j < hv.length ∧ pos sel j = none ∧ hv[j]? = some u) ∨ (hv.length ≤ j ∧ hvN[sel.length + (j - hv.length)]? = some u) := by
  unfold newV at e
  by_cases hj : j < hv.length
  · rw [List.getElem?_append_left (by simpa using hj), List.getElem?_map, List.getElem?_range hj] at e
    simp only [Option.map_some, Option.some.injEq] at e
    split at e
    · rename_i p hp
      have hl : p < hvN.length := Nat.lt_of_lt_of_le (List.getElem?_eq_some_iff.1 (pos_get hp)).1 hle
      exact .inl ⟨hj, p, hp, by rw [List.getElem?_eq_getElem hl]; rw [List.getD_eq_getElem?_getD, List.getElem?_eq_getElem hl] at e; exact congrArg some e⟩
    · rename_i hp
      exact .inr (.inl ⟨hj, hp, by rw [List.getElem?_eq_getElem hj]; rw [List.getD_eq_getElem?_getD, List.getElem?_eq_getElem hj] at e; exact congrArg some e⟩)
  · rw [List.getElem?_append_right (by simp; omega)] at e
    simp only [List.length_map, List.length_range, List.getElem?_drop] at e
    exact .inr (.inr ⟨by omega, e⟩)
theorem newV_old {sel : List Nat} {hvN : List Value} {j : Nat} (hj : j < hv.length) : (newV sel hv hvN)[j]? = some (match pos sel j with
    | some p => hvN.getD p undef
    | none => hv.getD j undef) := by
  unfold newV
  rw [List.getElem?_append_left (by simpa using hj), List.getElem?_map, List.getElem?_range hj]
  rfl
theorem newV_new {sel : List Nat} {hvN : List Value} {q : Nat} (hq : sel.length ≤ q) : (newV sel hv hvN)[hv.length + (q - sel.length)]? = hvN[q]? := by
  unfold newV
  rw [List.getElem?_append_right (by simp)]
  simp only [List.length_map, List.length_range, List.getElem?_drop]
  congr 1
  omega
theorem backN_inj {sel : List Nat} {N : Nat} (nd : sel.Nodup) (lt : ∀ h ∈ sel, h < N) {q q' j : Nat} (e : backN sel N q = some j) (e' : backN sel N q' = some j) : q = q' := by
  unfold backN at e e'
  cases h1 : sel[q]? with
  | some x =>
    rw [h1] at e
    simp only [Option.some.injEq] at e
    subst e
    cases h2 : sel[q']? with
    | some y =>
      rw [h2] at e'
      simp only [Option.some.injEq] at e'
      subst e'
      exact (List.getElem?_inj (List.getElem?_eq_some_iff.1 h1).1 nd).1 (h1.trans h2.symm)
    | none =>
      rw [h2] at e'
      simp only [Option.some.injEq] at e'
      have := lt x (List.mem_of_getElem? h1)
      omega
  | none =>
    rw [h1] at e
    simp only [Option.some.injEq] at e
    have l1 := List.getElem?_eq_none_iff.1 h1
    cases h2 : sel[q']? with
    | some y =>
      rw [h2] at e'
      simp only [Option.some.injEq] at e'
      subst e'
      have := lt y (List.mem_of_getElem? h2)
      omega
    | none =>
      rw [h2] at e'
      simp only [Option.some.injEq] at e'
      have l2 := List.getElem?_eq_none_iff.1 h2
      omega
theorem backN_ok {sel : List Nat} {hvN : List Value} (lt : ∀ h ∈ sel, h < hv.length) (nd : sel.Nodup) : ∀ i j v, backN sel hv.length i = some j → hvN[i]? = some v → (newV sel hv hvN)[j]? = some v := by
  intro i j v e h
  unfold backN at e
  split at e
  · rename_i x hx
    injection e with e
    subst e
    rw [newV_old (lt x (List.mem_of_getElem? hx)), get_pos nd hx]
    simp [List.getD_eq_getElem?_getD, h]
  · rename_i hx
    injection e with e
    subst e
    rw [newV_new (List.getElem?_eq_none_iff.1 hx)]
    exact h
/-- behind a call: what was handed over is as the call left it, the rest as it was -/
theorem Inv.call (iv : Inv w0 U w F hv H) {sel : List Nat} (nd : sel.Nodup) (lt : ∀ h ∈ sel, h < H.length) {hvN : List Value} {HN : List Blk}
    (iN : Inv w (uOf (hvOf hv sel) (pickB (pos sel) H (fun _ _ => true) 0 sel) F) w' F' hvN HN) (hle : sel.length ≤ HN.length) :
    Inv w0 U w' F' (newV sel hv hvN) (newB sel H HN) ∧ ∀ h i v, keepN sel HN h = some i → hv[h]? = some v → (newV sel hv hvN)[i]? = some v := by
  have lt' : ∀ h ∈ sel, h < hv.length := fun h hh => by rw [iv.len]; exact lt h hh
  have hleV : sel.length ≤ hvN.length := by rw [iN.len]; exact hle
  -- what was handed over
  have pass : ∀ {g : Nat}, ownsU (hvOf hv sel) (pickB (pos sel) H (fun _ _ => true) 0 sel) g → ∃ h v B, h ∈ sel ∧ hv[h]? = some v ∧ H[h]? = some B ∧ owns v B g := by
    rintro g ⟨j, v, B, h1, h2, h3⟩
    obtain ⟨h, e1, e2⟩ := hvOf_get lt' h1
    obtain ⟨h', e3, e4⟩ := pickB_get h2
    rw [e1] at e3
    injection e3 with e3
    subst e3
    have hl := lt h (List.mem_of_getElem? e1)
    subst e4
    refine ⟨h, v, H[h], List.mem_of_getElem? e1, e2, List.getElem?_eq_getElem hl, ?_⟩
    rw [List.getD_eq_getElem?_getD, List.getElem?_eq_getElem hl, Option.getD_some] at h3
    exact owns_of (by rw [setP_own, mapB_own, thB_own]) h3
  have notF : ∀ {b : Nat}, F b → ¬ ownsU (hvOf hv sel) (pickB (pos sel) H (fun _ _ => true) 0 sel) b := fun hb hu => by
    obtain ⟨h, v, B, _, h2, h3, h4⟩ := pass hu
    exact (iv.own h v B _ h2 h3 h4).1 hb
  have keepF : ∀ b, F b → w'.heap[b]? = w.heap[b]? := fun b hb => iN.old b (iv.fb b hb) (notF hb)
  have keep : ∀ h i v, keepN sel HN h = some i → hv[h]? = some v → (newV sel hv hvN)[i]? = some v := by
    intro h i v e hh
    have hl : h < hv.length := (List.getElem?_eq_some_iff.1 hh).1
    unfold keepN at e
    split at e
    · rename_i hp
      injection e with e
      subst e
      rw [newV_old hl, hp]
      simp [List.getD_eq_getElem?_getD, hh]
    · rename_i p hp
      cases hpn : (HN.getD p .gone).pn with
      | false => rw [hpn] at e; cases e
      | true =>
        rw [hpn] at e
        injection e with e
        subst e
        have hpl : p < hvN.length := Nat.lt_of_lt_of_le (List.getElem?_eq_some_iff.1 (pos_get hp)).1 hleV
        have hpl2 : p < HN.length := by rw [← iN.len]; exact hpl
        have hpin := iN.pin p hvN[p] HN[p] (List.getElem?_eq_getElem hpl) (List.getElem?_eq_getElem hpl2) (by simpa [List.getD_eq_getElem?_getD, List.getElem?_eq_getElem hpl2] using hpn)
        have h2 := get_hvOf (pos_get hp) hh
        rw [newV_old hl, hp]
        have h3 : (hvOf hv sel)[p]? = some hvN[p] := hpin
        rw [h2] at h3
        injection h3 with h3
        simp [List.getD_eq_getElem?_getD, List.getElem?_eq_getElem hpl, h3]
  have back := backN_ok (hvN := hvN) lt' nd
  -- an entry: handed back or kept
  have at_ : ∀ {j : Nat} {u : Value} {B : Blk}, (newV sel hv hvN)[j]? = some u → (newB sel H HN)[j]? = some B →
      (∃ q BN c, backN sel H.length q = some j ∧ hvN[q]? = some u ∧ HN[q]? = some BN ∧ B = setP c (mapB (backN sel H.length) BN) ∧ (c = true → ∃ B0, pos sel j = some q ∧ H[j]? = some B0 ∧ B0.pn = true ∧ BN.pn = true)) ∨
      (∃ B0, pos sel j = none ∧ hv[j]? = some u ∧ H[j]? = some B0 ∧ B = mapB (keepN sel HN) B0) := by
    intro j u B h1 h2
    rcases newV_at hleV h1 with ⟨hj, p, hp, e⟩ | ⟨hj, hp, e⟩ | ⟨hj, e⟩
    · unfold newB at h2
      rw [List.getElem?_append_left (by rw [mergeB_len, ← iv.len]; exact hj)] at h2
      obtain ⟨B0, e0, e2⟩ := mergeB_get h2
      rw [Nat.zero_add] at e2
      rcases e2 with ⟨p', hp', e2⟩ | ⟨hp', e2⟩
      · rw [hp] at hp'
        injection hp' with hp'
        subst hp'
        have hpl2 : p < HN.length := Nat.lt_of_lt_of_le (List.getElem?_eq_some_iff.1 (pos_get hp)).1 hle
        have hg : HN.getD p .gone = HN[p] := by rw [List.getD_eq_getElem?_getD, List.getElem?_eq_getElem hpl2, Option.getD_some]
        rw [hg] at e2
        refine .inl ⟨p, HN[p], _, by unfold backN; rw [pos_get hp], e, List.getElem?_eq_getElem hpl2, e2, fun hc => ⟨B0, hp, e0, ?_⟩⟩
        simpa using hc
      · rw [hp] at hp'; cases hp'
    · unfold newB at h2
      rw [List.getElem?_append_left (by rw [mergeB_len, ← iv.len]; exact hj)] at h2
      obtain ⟨B0, e0, e2⟩ := mergeB_get h2
      rw [Nat.zero_add] at e2
      rcases e2 with ⟨p', hp', e2⟩ | ⟨hp', e2⟩
      · rw [hp] at hp'; cases hp'
      · exact .inr ⟨B0, hp, e, e0, e2⟩
    · unfold newB at h2
      rw [iv.len] at hj e
      rw [List.getElem?_append_right (by rw [mergeB_len]; exact hj), mergeB_len, List.getElem?_map, List.getElem?_drop] at h2
      cases hb : HN[sel.length + (j - H.length)]? with
      | none => rw [hb] at h2; cases h2
      | some BN =>
        rw [hb] at h2
        simp only [Option.map_some, Option.some.injEq] at h2
        refine .inl ⟨_, BN, false, ?_, e, hb, h2.symm, fun hc => by cases hc⟩
        unfold backN
        rw [List.getElem?_eq_none (by omega)]
        simp only [Option.some.injEq]
        omega
  have ownN : ∀ {v : Value} {BN : Blk} {c : Bool} {m : Nat → Option Nat} {g : Nat}, owns v (setP c (mapB m BN)) g → owns v BN g := fun ho => owns_of (by rw [setP_own, mapB_own]) ho
  have ownK : ∀ {v : Value} {B : Blk} {m : Nat → Option Nat} {g : Nat}, owns v (mapB m B) g → owns v B g := fun ho => owns_of (mapB_own _ _) ho
  -- a block that was not handed over is not one of the call's
  have apart : ∀ {j q : Nat} {u u' : Value} {B0 BN : Blk} {g : Nat}, pos sel j = none → hv[j]? = some u → H[j]? = some B0 → owns u B0 g → hvN[q]? = some u' → HN[q]? = some BN → owns u' BN g → False := by
    intro j q u u' B0 BN g hp h1 h2 h3 h4 h5 h6
    rcases (iN.own q u' BN g h4 h5 h6).2 with h | h
    · have := (iv.rep j u B0 h1 h2).own_lt h3
      omega
    · obtain ⟨h', v, B, hm, e1, e2, e3⟩ := pass h
      have := iv.dis j h' u v B0 B g h1 h2 e1 e2 h3 e3
      subst this
      exact pos_none hp hm
  refine ⟨⟨iN.os.trans iv.os, iN.tape.trans iv.tape, iN.output.trans iv.output, Nat.le_trans iv.size iN.size, fun k hk hu => ?_, iN.fb, fun b hb => iN.f0 b (iv.f0 b hb), fun b hb => ?_, ?_, fun j v B h1 h2 => ?_, fun j v B g h1 h2 h3 => ?_, fun j j' v v' B B' g h1 h2 h1' h2' h3 h3' => ?_, fun j v B h1 h2 h3 => ?_, iv.lay⟩, keep⟩
  · refine (iN.old k (Nat.lt_of_lt_of_le hk iv.size) fun hp => ?_).trans (iv.old k hk hu)
    obtain ⟨h, v, B, _, e1, e2, e3⟩ := pass hp
    rcases (iv.own h v B k e1 e2 e3).2 with h | h
    · omega
    · exact hu h
  · rcases iN.f1 b hb with h | h | h
    · exact iv.f1 b h
    · exact .inr (.inl (Nat.le_trans iv.size h))
    · obtain ⟨h', v, B, _, e1, e2, e3⟩ := pass h
      exact .inr (iv.own h' v B b e1 e2 e3).2
  · simp [newV, newB, mergeB_len, iv.len, iN.len]
  · rcases at_ h1 h2 with ⟨q, BN, c, e1, e2, e3, rfl, _⟩ | ⟨B0, hp, e1, e2, rfl⟩
    · exact setP_rep (mapB_rep (fun a b u ha hb => back a b u (by rw [iv.len]; exact ha) hb) (iN.rep q v BN e2 e3))
    · have h0 := iv.rep j v B0 e1 e2
      have h5 := h0.step (w' := w') (F' := F') (hv' := hv) (X := fun _ => True) ⟨fun b hb => iN.f0 b hb, keepF, fun _ _ _ h => h⟩ (fun _ _ => trivial) (fun g hg => iN.old g (h0.own_lt hg) (fun hu => by
        obtain ⟨h', v', B', hm, a1, a2, a3⟩ := pass hu
        have := iv.dis j h' v v' B0 B' g e1 e2 a1 a2 hg a3
        subst this
        exact pos_none hp hm))
      exact mapB_rep keep h5
  · rcases at_ h1 h2 with ⟨q, BN, c, e1, e2, e3, rfl, _⟩ | ⟨B0, hp, e1, e2, rfl⟩
    · obtain ⟨a1, a2⟩ := iN.own q v BN g e2 e3 (ownN h3)
      refine ⟨a1, ?_⟩
      rcases a2 with a2 | a2
      · exact .inl (Nat.le_trans iv.size a2)
      · obtain ⟨h', v', B', _, b1, b2, b3⟩ := pass a2
        exact (iv.own h' v' B' g b1 b2 b3).2
    · obtain ⟨a1, a2⟩ := iv.own j v B0 g e1 e2 (ownK h3)
      refine ⟨fun hf => ?_, a2⟩
      rcases iN.f1 g hf with h | h | h
      · exact a1 h
      · have := (iv.rep j v B0 e1 e2).own_lt (ownK h3)
        omega
      · obtain ⟨h', v', B', hm, b1, b2, b3⟩ := pass h
        have := iv.dis j h' v v' B0 B' g e1 e2 b1 b2 (ownK h3) b3
        subst this
        exact pos_none hp hm
  · rcases at_ h1 h2 with ⟨q, BN, c, e1, e2, e3, rfl, _⟩ | ⟨B0, hp, e1, e2, rfl⟩ <;> rcases at_ h1' h2' with ⟨q', BN', c', e1', e2', e3', rfl, _⟩ | ⟨B0', hp', e1', e2', rfl⟩
    · have := iN.dis q q' v v' BN BN' g e2 e3 e2' e3' (ownN h3) (ownN h3')
      subst this
      rw [e1] at e1'
      exact Option.some.inj e1'
    · exact (apart hp' e1' e2' (ownK h3') e2 e3 (ownN h3)).elim
    · exact (apart hp e1 e2 (ownK h3) e2' e3' (ownN h3')).elim
    · exact iv.dis j j' v v' B0 B0' g e1 e2 e1' e2' (ownK h3) (ownK h3')
  · rcases at_ h1 h2 with ⟨q, BN, c, e1, e2, e3, rfl, hc⟩ | ⟨B0, hp, e1, e2, rfl⟩
    · obtain ⟨B0, hp, hB, hb0, hbn⟩ := hc (setP_pn h3)
      have hpin : (hvOf hv sel)[q]? = some v := iN.pin q v BN e2 e3 hbn
      obtain ⟨h, e4, e5⟩ := hvOf_get lt' hpin
      rw [pos_get hp] at e4
      injection e4 with e4
      subst e4
      exact iv.pin j v B0 e5 hB hb0
    · rw [mapB_pn] at h3
      exact iv.pin j v B0 e1 e2 h3
end
end Go.Proofs.YtcpimjekllkbkaaGreatDoor.E
