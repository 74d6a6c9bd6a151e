/- The library's contracts at this seat, as the kit's tool has written them. Decimal numerals: the program's. Texts of lists of numbers, of faults. Calendars: days of years and months, numbers of days. No program in sight. Comparisons of dates. No program in sight. Dates compared. Greatest common divisors. What arguments of plain data hold: slices of mixed structs, slices of numbers. No program in sight. Calendars: their sizes, their copies. Calendars: copied. An append of one number at a step, with what it leaves, of a region that draws its order. No program in sight. Calendars: copied, compared. Cycles of rules: the program's. Leap years: the program's. Lengths of years: the program's. Leap years: the reference's. Days of months, of years: the program's. Days before a year: the program's. Days of months, of years: the reference's. Days of years: the reference's. Rules: when their years are valid. No program in sight. Years of a cycle: the reference's. Names. No program in sight. Names: the program's and the reference's. Names: the reference's. -/
import Derived.Shelf.Strings.Builder1
import Derived.Shelf.Strings.BuilderF
import Derived.Shelf.Strings.BuilderK
import Derived.Shelf.Utf8.RuneCount
import Derived.Shelf.Strconv.Itoa0
import Derived.Shelf.Strconv.Itoa1
import Derived.Shelf.LaysM
import Derived.Shelf.Strconv.Itoa2
import Derived.Shelf.Strconv.Itoa3
import Derived.Shelf.Strconv.Itoa4
import Derived.Shelf.Strconv.ParseIntEmpty
import Derived.Shelf.Strconv.Clone
import Derived.Shelf.Strconv.SyntaxError
import Derived.Shelf.LaysC
import Derived.Shelf.Strconv.ToError
import Derived.Shelf.Strconv.Lower
import Derived.Shelf.Strconv.ParseUint10
import Derived.Shelf.Strconv.ParseUint10Empty
import Derived.Shelf.Strconv.ParseUint10Any
import Derived.Shelf.Strconv.ParseInt10
import Derived.Shelf.Strconv.RangeError
import Derived.Shelf.Strconv.ToErrorRange
import Derived.Shelf.Strconv.ParseUintEmpty
import Derived.Shelf.Strconv.ParseUint10b64
import Derived.Shelf.Strconv.ParseUint10b32
import Derived.Shelf.Strconv.ParseUint10b16
import Derived.Shelf.Strconv.ParseUint10b8
import Derived.Shelf.Strconv.ParseUint10At
import Derived.Shelf.Strconv.ParseInt10At64
import Derived.Shelf.Strconv.ParseInt10At32
import Derived.Shelf.Strconv.ParseInt10At16
import Derived.Shelf.Strconv.ParseInt10At8
import Derived.Shelf.Strconv.ParseInt10All
import Derived.Shelf.Strconv.ParseIntPublic10
import Derived.Shelf.Strconv.ErrVarParseInt
import Derived.Shelf.Strings.Search1
import Derived.Shelf.Strings.Search2
import Derived.Shelf.Strings.Search3
import Derived.Shelf.Strings.Count
import Derived.Shelf.Strings.Shaped
import Derived.Shelf.Strings.Prefix
import Derived.Shelf.Strings.Split
import Derived.Shelf.Strings.SplitShaped
import Derived.Shelf.Unicode.Decode
import Derived.Shelf.Strings.RuneCount
import Derived.Shelf.Strings.Explode
import Derived.Shelf.Unicode.DecodeSlow
import Derived.Shelf.Unicode.DecodeAny
import Derived.Shelf.Strings.BuilderCap
import Derived.Test.YtpohhnihgegmfaaDoorProg
import Derived.Test.YtpohhnihgegmfaaDoorBa
import Derived.ProofKit
import Derived.Deep.DeepCutAuto
import Derived.Deep.RegionHeld3
import Derived.Deep.AppendLies
import Derived.Lib.ConvBytes
import Derived.Lib.UnsafeStr
import Derived.Laws.Closers25b

namespace Go.Proofs
open Go.Shelf
def Tryd.lays169_ren : Go.Shelf.Ren := ⟨fun | 169 => 48 | n => n, fun | 70 => 74 | 9 => 9 | 0 => 0 | 72 => 77 | 37 => 75 | 127 => 93 | 3 => 3 | 5 => 5 | n => n, fun | n => n⟩
theorem Tryd.lays169 : Go.Proofs.Lays.n169 Tryd.prog Tryd.lays169_ren := {
  mixed := by kernel_rfl
  f169 := Tryd.func48.trans (congrArg some (by kernel_rfl))
  t0 := Tryd.underlying0
  a0 := Tryd.isAgg0
  z0 := Tryd.sizeOf0
  v0 := Tryd.zeroValue0
  t3 := Tryd.underlying3
  a3 := Tryd.isAgg3
  z3 := Tryd.sizeOf3
  v3 := Tryd.zeroValue3
  t9 := Tryd.underlying9
  a9 := Tryd.isAgg9
  z9 := Tryd.sizeOf9
  v9 := Tryd.zeroValue9
  t37 := Tryd.underlying75
  a37 := Tryd.isAgg75
  z37 := Tryd.sizeOf75
  v37 := Tryd.zeroValue75
  t70 := Tryd.underlying74
  a70 := Tryd.isAgg74
  z70 := Tryd.sizeOf74
  v70 := Tryd.zeroValue74
  t72 := Tryd.underlying77
  a72 := Tryd.isAgg77
  z72 := Tryd.sizeOf77
  v72 := Tryd.zeroValue77
  t127 := Tryd.underlying93
  a127 := Tryd.isAgg93
  z127 := Tryd.sizeOf93
  v127 := Tryd.zeroValue93 }
theorem Tryd.Builder_Extra_169 : Builder.Extra Tryd.prog Tryd.lays169_ren := {
  sizeBuilder := by kernel_rfl
  liesBuilder := by kernel_rfl
  t5 := Tryd.underlying5
  a5 := Tryd.isAgg5
  z5 := Tryd.sizeOf5
  v5 := Tryd.zeroValue5
  infoByte := by kernel_rfl
  cellsByte := by kernel_rfl
  sizeByte := by kernel_rfl
  neB5 := by decide }
open Go.RowKit in
theorem Tryd.Builder_String_any (B b : Nat) (l : List UInt8) (w : World) (h : Lib.IsBuilder 77 5 B b (Lib.byteCells l) w) (hBw : B ≤ w.heap.size) :
    Calls Tryd.prog 48 #[.pointer (some ⟨b, 0, none⟩)] w fun e w' => e = .returned (.string ⟨l.toArray⟩) ∧ Below B w w' := Any.Builder_String_any Tryd.lays169 Tryd.Builder_Extra_169 B b l w h hBw
open Go.RowKit in
def Tryd.laysM173_ren : Go.Shelf.Ren := ⟨fun | 173 => 61 | 246 => 80 | 283 => 94 | 284 => 95 | 285 => 96 | 286 => 97 | 129 => 102 | 317 => 101 | 318 => 103 | 319 => 104 | 320 => 105 | 337 => 106 | 338 => 107 | n => n, fun | 2 => 2 | 3 => 3 | 9 => 9 | 4 => 4 | 171 => 114 | 0 => 0 | 53 => 99 | 37 => 75 | 5 => 5 | 173 => 117 | 212 => 130 | 51 => 123 | 20 => 20 | 213 => 131 | 46 => 102 | 232 => 135 | 233 => 136 | n => n, fun | 17 => 5 | 18 => 6 | 19 => 7 | n => n⟩
theorem Tryd.laysM173 : Go.Proofs.LaysM.n173 Tryd.prog Tryd.laysM173_ren := {
  mixed := by kernel_rfl
  f129 := Tryd.func102.trans (congrArg some (by kernel_rfl))
  f173 := Tryd.func61.trans (congrArg some (by kernel_rfl))
  f246 := Tryd.func80.trans (congrArg some (by kernel_rfl))
  f283 := Tryd.func94.trans (congrArg some (by kernel_rfl))
  f284 := Tryd.func95.trans (congrArg some (by kernel_rfl))
  f285 := Tryd.func96.trans (congrArg some (by kernel_rfl))
  f286 := Tryd.func97.trans (congrArg some (by kernel_rfl))
  f317 := Tryd.func101.trans (congrArg some (by kernel_rfl))
  f318 := Tryd.func103.trans (congrArg some (by kernel_rfl))
  f319 := Tryd.func104.trans (congrArg some (by kernel_rfl))
  f320 := Tryd.func105.trans (congrArg some (by kernel_rfl))
  f337 := Tryd.func106.trans (congrArg some (by kernel_rfl))
  f338 := Tryd.func107.trans (congrArg some (by kernel_rfl))
  t0 := Tryd.underlying0
  a0 := Tryd.isAgg0
  z0 := Tryd.sizeOf0
  v0 := Tryd.zeroValue0
  t2 := Tryd.underlying2
  a2 := Tryd.isAgg2
  z2 := Tryd.sizeOf2
  v2 := Tryd.zeroValue2
  t3 := Tryd.underlying3
  a3 := Tryd.isAgg3
  z3 := Tryd.sizeOf3
  v3 := Tryd.zeroValue3
  t4 := Tryd.underlying4
  a4 := Tryd.isAgg4
  z4 := Tryd.sizeOf4
  v4 := Tryd.zeroValue4
  t5 := Tryd.underlying5
  a5 := Tryd.isAgg5
  z5 := Tryd.sizeOf5
  v5 := Tryd.zeroValue5
  t9 := Tryd.underlying9
  a9 := Tryd.isAgg9
  z9 := Tryd.sizeOf9
  v9 := Tryd.zeroValue9
  t20 := Tryd.underlying20
  a20 := Tryd.isAgg20
  z20 := Tryd.sizeOf20
  v20 := Tryd.zeroValue20
  t37 := Tryd.underlying75
  a37 := Tryd.isAgg75
  z37 := Tryd.sizeOf75
  v37 := Tryd.zeroValue75
  t46 := Tryd.underlying102
  a46 := Tryd.isAgg102
  z46 := Tryd.sizeOf102
  v46 := Tryd.zeroValue102
  t51 := Tryd.underlying123
  a51 := Tryd.isAgg123
  z51 := Tryd.sizeOf123
  v51 := Tryd.zeroValue123
  t53 := Tryd.underlying99
  a53 := Tryd.isAgg99
  z53 := Tryd.sizeOf99
  v53 := Tryd.zeroValue99
  t171 := Tryd.underlying114
  a171 := Tryd.isAgg114
  z171 := Tryd.sizeOf114
  v171 := Tryd.zeroValue114
  t173 := Tryd.underlying117
  a173 := Tryd.isAgg117
  z173 := Tryd.sizeOf117
  v173 := Tryd.zeroValue117
  t212 := Tryd.underlying130
  a212 := Tryd.isAgg130
  z212 := Tryd.sizeOf130
  v212 := Tryd.zeroValue130
  t213 := Tryd.underlying131
  a213 := Tryd.isAgg131
  z213 := Tryd.sizeOf131
  t232 := Tryd.underlying135
  a232 := Tryd.isAgg135
  z232 := Tryd.sizeOf135
  v232 := Tryd.zeroValue135
  t233 := Tryd.underlying136
  a233 := Tryd.isAgg136
  z233 := Tryd.sizeOf136
  v233 := Tryd.zeroValue136
  g17 := by kernel_rfl
  g18 := by kernel_rfl
  g19 := by kernel_rfl
  i0 := by kernel_rfl
  i2 := by kernel_rfl
  i3 := by kernel_rfl
  i4 := by kernel_rfl
  i5 := by kernel_rfl
  i9 := by kernel_rfl
  i20 := by kernel_rfl
  i37 := by kernel_rfl
  i46 := by kernel_rfl
  i51 := by kernel_rfl
  i53 := by kernel_rfl
  i171 := by kernel_rfl
  i173 := by kernel_rfl
  i212 := by kernel_rfl
  i232 := by kernel_rfl
  i233 := by kernel_rfl
  m17 := by kernel_rfl
  m18 := by kernel_rfl
  m19 := by kernel_rfl }
open Go.RowKit Go.Sort Go.Lib in
theorem Tryd.strconv_FormatInt_10 (n : Int) (h0 : -9223372036854775808 ≤ n) (h1 : n ≤ 9223372036854775807) (w : World) (htab : Lib.TabIs Tryd.prog w "internal/strconv.uint64pow10" .u64 Lib.pow10Tab) :
    Calls Tryd.prog 61 #[.int .i64 n, .int .i64 10] w fun e w' => e = .returned (.string ⟨(Lib.itoa n).toArray⟩) ∧ ∃ k os, w' = grow (w.drewN k) os := Any.strconv_FormatInt_10 Tryd.laysM173 n h0 h1 w htab
def Tryd.laysC174_ren : Go.Shelf.Ren := ⟨fun | 174 => 34 | 247 => 59 | 245 => 60 | 287 => 75 | 279 => 76 | 280 => 77 | 281 => 78 | 282 => 79 | 321 => 89 | 322 => 90 | 316 => 91 | 171 => 93 | 205 => 92 | 243 => 100 | 246 => 80 | 283 => 94 | 284 => 95 | 285 => 96 | 286 => 97 | 129 => 102 | 317 => 101 | 318 => 103 | 319 => 104 | 320 => 105 | 337 => 106 | 338 => 107 | n => n, fun | 9 => 9 | 3 => 3 | 2 => 2 | 75 => 59 | 85 => 60 | 4 => 4 | 167 => 98 | 5 => 5 | 53 => 99 | 175 => 100 | 46 => 102 | 168 => 103 | 37 => 75 | 0 => 0 | 210 => 112 | 21 => 21 | 127 => 93 | 145 => 128 | 143 => 126 | 171 => 114 | 173 => 117 | 212 => 130 | 51 => 123 | 20 => 20 | 213 => 131 | 232 => 135 | 233 => 136 | 80 => 80 | n => n, fun | 15 => 1 | 16 => 2 | 17 => 5 | 18 => 6 | 19 => 7 | n => n⟩
theorem Tryd.laysC174 : Go.Proofs.LaysC.n174 Tryd.prog Tryd.laysC174_ren := {
  mixed := by kernel_rfl
  f129 := Tryd.func102.trans (congrArg some (by kernel_rfl))
  f171 := Tryd.func93.trans (congrArg some (by kernel_rfl))
  f174 := Tryd.func34.trans (congrArg some (by kernel_rfl))
  f205 := Tryd.func92.trans (congrArg some (by kernel_rfl))
  f243 := Tryd.func100.trans (congrArg some (by kernel_rfl))
  f245 := Tryd.func60.trans (congrArg some (by kernel_rfl))
  f246 := Tryd.func80.trans (congrArg some (by kernel_rfl))
  f247 := Tryd.func59.trans (congrArg some (by kernel_rfl))
  f279 := Tryd.func76.trans (congrArg some (by kernel_rfl))
  f280 := Tryd.func77.trans (congrArg some (by kernel_rfl))
  f281 := Tryd.func78.trans (congrArg some (by kernel_rfl))
  f282 := Tryd.func79.trans (congrArg some (by kernel_rfl))
  f283 := Tryd.func94.trans (congrArg some (by kernel_rfl))
  f284 := Tryd.func95.trans (congrArg some (by kernel_rfl))
  f285 := Tryd.func96.trans (congrArg some (by kernel_rfl))
  f286 := Tryd.func97.trans (congrArg some (by kernel_rfl))
  f287 := Tryd.func75.trans (congrArg some (by kernel_rfl))
  f316 := Tryd.func91.trans (congrArg some (by kernel_rfl))
  f317 := Tryd.func101.trans (congrArg some (by kernel_rfl))
  f318 := Tryd.func103.trans (congrArg some (by kernel_rfl))
  f319 := Tryd.func104.trans (congrArg some (by kernel_rfl))
  f320 := Tryd.func105.trans (congrArg some (by kernel_rfl))
  f321 := Tryd.func89.trans (congrArg some (by kernel_rfl))
  f322 := Tryd.func90.trans (congrArg some (by kernel_rfl))
  f337 := Tryd.func106.trans (congrArg some (by kernel_rfl))
  f338 := Tryd.func107.trans (congrArg some (by kernel_rfl))
  t0 := Tryd.underlying0
  a0 := Tryd.isAgg0
  z0 := Tryd.sizeOf0
  v0 := Tryd.zeroValue0
  t2 := Tryd.underlying2
  a2 := Tryd.isAgg2
  z2 := Tryd.sizeOf2
  v2 := Tryd.zeroValue2
  t3 := Tryd.underlying3
  a3 := Tryd.isAgg3
  z3 := Tryd.sizeOf3
  v3 := Tryd.zeroValue3
  t4 := Tryd.underlying4
  a4 := Tryd.isAgg4
  z4 := Tryd.sizeOf4
  v4 := Tryd.zeroValue4
  t5 := Tryd.underlying5
  a5 := Tryd.isAgg5
  z5 := Tryd.sizeOf5
  v5 := Tryd.zeroValue5
  t9 := Tryd.underlying9
  a9 := Tryd.isAgg9
  z9 := Tryd.sizeOf9
  v9 := Tryd.zeroValue9
  t20 := Tryd.underlying20
  a20 := Tryd.isAgg20
  z20 := Tryd.sizeOf20
  v20 := Tryd.zeroValue20
  t21 := Tryd.underlying21
  a21 := Tryd.isAgg21
  z21 := Tryd.sizeOf21
  v21 := Tryd.zeroValue21
  t37 := Tryd.underlying75
  a37 := Tryd.isAgg75
  z37 := Tryd.sizeOf75
  v37 := Tryd.zeroValue75
  t46 := Tryd.underlying102
  a46 := Tryd.isAgg102
  z46 := Tryd.sizeOf102
  v46 := Tryd.zeroValue102
  t51 := Tryd.underlying123
  a51 := Tryd.isAgg123
  z51 := Tryd.sizeOf123
  v51 := Tryd.zeroValue123
  t53 := Tryd.underlying99
  a53 := Tryd.isAgg99
  z53 := Tryd.sizeOf99
  v53 := Tryd.zeroValue99
  t75 := Tryd.underlying59
  a75 := Tryd.isAgg59
  z75 := Tryd.sizeOf59
  v75 := Tryd.zeroValue59
  t85 := Tryd.underlying60
  a85 := Tryd.isAgg60
  z85 := Tryd.sizeOf60
  v85 := Tryd.zeroValue60
  t127 := Tryd.underlying93
  a127 := Tryd.isAgg93
  z127 := Tryd.sizeOf93
  v127 := Tryd.zeroValue93
  t143 := Tryd.underlying126
  a143 := Tryd.isAgg126
  z143 := Tryd.sizeOf126
  v143 := Tryd.zeroValue126
  t145 := Tryd.underlying128
  a145 := Tryd.isAgg128
  z145 := Tryd.sizeOf128
  v145 := Tryd.zeroValue128
  t167 := Tryd.underlying98
  a167 := Tryd.isAgg98
  z167 := Tryd.sizeOf98
  v167 := Tryd.zeroValue98
  t168 := Tryd.underlying103
  a168 := Tryd.isAgg103
  z168 := Tryd.sizeOf103
  v168 := Tryd.zeroValue103
  t171 := Tryd.underlying114
  a171 := Tryd.isAgg114
  z171 := Tryd.sizeOf114
  v171 := Tryd.zeroValue114
  t173 := Tryd.underlying117
  a173 := Tryd.isAgg117
  z173 := Tryd.sizeOf117
  v173 := Tryd.zeroValue117
  t175 := Tryd.underlying100
  a175 := Tryd.isAgg100
  z175 := Tryd.sizeOf100
  v175 := Tryd.zeroValue100
  t210 := Tryd.underlying112
  a210 := Tryd.isAgg112
  z210 := Tryd.sizeOf112
  v210 := Tryd.zeroValue112
  t212 := Tryd.underlying130
  a212 := Tryd.isAgg130
  z212 := Tryd.sizeOf130
  v212 := Tryd.zeroValue130
  t213 := Tryd.underlying131
  a213 := Tryd.isAgg131
  z213 := Tryd.sizeOf131
  t232 := Tryd.underlying135
  a232 := Tryd.isAgg135
  z232 := Tryd.sizeOf135
  v232 := Tryd.zeroValue135
  t233 := Tryd.underlying136
  a233 := Tryd.isAgg136
  z233 := Tryd.sizeOf136
  v233 := Tryd.zeroValue136
  g15 := by kernel_rfl
  g16 := by kernel_rfl
  g17 := by kernel_rfl
  g18 := by kernel_rfl
  g19 := by kernel_rfl
  t80 := Tryd.underlying80
  a80 := Tryd.isAgg80
  z80 := Tryd.sizeOf80
  v80 := Tryd.zeroValue80
  i0 := by kernel_rfl
  i2 := by kernel_rfl
  i3 := by kernel_rfl
  i4 := by kernel_rfl
  i5 := by kernel_rfl
  i9 := by kernel_rfl
  i20 := by kernel_rfl
  i21 := by kernel_rfl
  i37 := by kernel_rfl
  i46 := by kernel_rfl
  i51 := by kernel_rfl
  i53 := by kernel_rfl
  i75 := by kernel_rfl
  i80 := by kernel_rfl
  i85 := by kernel_rfl
  i127 := by kernel_rfl
  i143 := by kernel_rfl
  i145 := by kernel_rfl
  i167 := by kernel_rfl
  i168 := by kernel_rfl
  i171 := by kernel_rfl
  i173 := by kernel_rfl
  i175 := by kernel_rfl
  i210 := by kernel_rfl
  i212 := by kernel_rfl
  i232 := by kernel_rfl
  i233 := by kernel_rfl
  m15 := by kernel_rfl
  m16 := by kernel_rfl
  m17 := by kernel_rfl
  m18 := by kernel_rfl
  m19 := by kernel_rfl
  c0 := by kernel_rfl
  c2 := by kernel_rfl
  c3 := by kernel_rfl
  c4 := by kernel_rfl
  c5 := by kernel_rfl
  c9 := by kernel_rfl
  c20 := by kernel_rfl
  c21 := by kernel_rfl
  c37 := by kernel_rfl
  c46 := by kernel_rfl
  c51 := by kernel_rfl
  c53 := by kernel_rfl
  c75 := by kernel_rfl
  c80 := by kernel_rfl
  c85 := by kernel_rfl
  c127 := by kernel_rfl
  c143 := by kernel_rfl
  c145 := by kernel_rfl
  c167 := by kernel_rfl
  c168 := by kernel_rfl
  c171 := by kernel_rfl
  c173 := by kernel_rfl
  c175 := by kernel_rfl
  c210 := by kernel_rfl
  c212 := by kernel_rfl
  c213 := by kernel_rfl
  c232 := by kernel_rfl
  c233 := by kernel_rfl }
open Go.RowKit in
theorem Tryd.strconv_ParseInt_10_at64_ok (s : ByteArray) (hmax : s.size ≤ 9223372036854775806) (v : Int) (h : Lib.parseIntB 64 s.data.toList = .ok v) (w : World) :
    Calls Tryd.prog 34 #[.string s, .int .i64 10, .int .i64 64] w fun e w' => e = .returned (.tuple #[.int .i64 v, .nilIface]) ∧ (w' = w ∨ ∃ t, w' = Lib.bytesWorld w 5 t) := Any.strconv_ParseInt_10_at64_ok Tryd.laysC174 s hmax v h w
open Go.RowKit in
theorem Tryd.strconv_ParseInt_10_at64_bad (s : ByteArray) (hlim : s.size ≤ 281474976710656) (x : Lib.NumEnd Int) (hx1 : ∀ v, x ≠ .ok v) (hx2 : x ≠ .range) (h : Lib.parseIntB 64 s.data.toList = x) (ev : Value) (w : World) (hv : w.cell? ⟨1, 0, none⟩ = some ev) (hev : ev = .nilIface ∨ ∃ te pe, ev = .iface te pe) :
    Calls Tryd.prog 34 #[.string s, .int .i64 10, .int .i64 64] w fun e w' => ∃ N, e = .returned (.tuple #[.int .i64 (0), .iface 103 (.pointer (some ⟨N, 0, none⟩))]) ∧ w.heap.size ≤ N ∧ w'.heap[N]? = some (.cells #[.string ⟨#[80, 97, 114, 115, 101, 73, 110, 116]⟩, .string s, ev] 112 (0, 0)) ∧ Below w.heap.size w w' := by
  cases x with
  | ok v => exact absurd rfl (hx1 v)
  | range => exact absurd rfl hx2
  | _ => exact Any.strconv_ParseInt_10_at64_syntax Tryd.laysC174 s hlim h ev w hv hev
open Go.RowKit in
theorem Tryd.strconv_ParseInt_10_at64_range (s : ByteArray) (hlim : s.size ≤ 281474976710656) (h : Lib.parseIntB 64 s.data.toList = .range) (ev : Value) (w : World) (hv : w.cell? ⟨2, 0, none⟩ = some ev) (hev : ev = .nilIface ∨ ∃ te pe, ev = .iface te pe) :
    Calls Tryd.prog 34 #[.string s, .int .i64 10, .int .i64 64] w fun e w' => ∃ N, e = .returned (.tuple #[.int .i64 (Lib.intSat 64 s.data.toList), .iface 103 (.pointer (some ⟨N, 0, none⟩))]) ∧ w.heap.size ≤ N ∧ w'.heap[N]? = some (.cells #[.string ⟨#[80, 97, 114, 115, 101, 73, 110, 116]⟩, .string s, ev] 112 (0, 0)) ∧ Below w.heap.size w w' := Any.strconv_ParseInt_10_at64_range Tryd.laysC174 s hlim h ev w hv hev
open Go.RowKit in
def Tryd.lays100_ren : Go.Shelf.Ren := ⟨fun | 100 => 40 | 207 => 65 | n => n, fun | 9 => 9 | 4 => 4 | 3 => 3 | n => n, fun | n => n⟩
theorem Tryd.lays100 : Go.Proofs.Lays.n100 Tryd.prog Tryd.lays100_ren := {
  mixed := by kernel_rfl
  f100 := Tryd.func40.trans (congrArg some (by kernel_rfl))
  f207 := Tryd.func65.trans (congrArg some (by kernel_rfl))
  t3 := Tryd.underlying3
  a3 := Tryd.isAgg3
  z3 := Tryd.sizeOf3
  v3 := Tryd.zeroValue3
  t4 := Tryd.underlying4
  a4 := Tryd.isAgg4
  z4 := Tryd.sizeOf4
  v4 := Tryd.zeroValue4
  t9 := Tryd.underlying9
  a9 := Tryd.isAgg9
  z9 := Tryd.sizeOf9
  v9 := Tryd.zeroValue9 }
open Go.RowKit Go.Lib in
theorem Tryd.strings_HasSuffix (s p : ByteArray) (w : World) (hs : s.size ≤ 9223372036854775807) :
    Calls Tryd.prog 40 #[.string s, .string p] w fun e w' => e = .returned (.bool (Lib.hasSuffix s.data.toList p.data.toList)) ∧ w' = w := Any.strings_HasSuffix Tryd.lays100 s p w hs
def Tryd.lays101_ren : Go.Shelf.Ren := ⟨fun | 101 => 33 | 208 => 58 | 206 => 74 | n => n, fun | 9 => 9 | 4 => 4 | 3 => 3 | n => n, fun | n => n⟩
theorem Tryd.lays101 : Go.Proofs.Lays.n101 Tryd.prog Tryd.lays101_ren := {
  mixed := by kernel_rfl
  f101 := Tryd.func33.trans (congrArg some (by kernel_rfl))
  f206 := Tryd.func74.trans (congrArg some (by kernel_rfl))
  f208 := Tryd.func58.trans (congrArg some (by kernel_rfl))
  t3 := Tryd.underlying3
  a3 := Tryd.isAgg3
  z3 := Tryd.sizeOf3
  v3 := Tryd.zeroValue3
  t4 := Tryd.underlying4
  a4 := Tryd.isAgg4
  z4 := Tryd.sizeOf4
  v4 := Tryd.zeroValue4
  t9 := Tryd.underlying9
  a9 := Tryd.isAgg9
  z9 := Tryd.sizeOf9
  v9 := Tryd.zeroValue9 }
open Go.RowKit Go.Lib in
theorem Tryd.strings_TrimPrefix (s p : ByteArray) (w : World) :
    Calls Tryd.prog 33 #[.string s, .string p] w fun e w' => e = .returned (.string ⟨(Lib.trimPrefix s.data.toList p.data.toList).toArray⟩) ∧ w' = w := Any.strings_TrimPrefix Tryd.lays101 s p w
def Tryd.lays102_ren : Go.Shelf.Ren := ⟨fun | 102 => 41 | 209 => 66 | 207 => 65 | n => n, fun | 9 => 9 | 4 => 4 | 3 => 3 | n => n, fun | n => n⟩
theorem Tryd.lays102 : Go.Proofs.Lays.n102 Tryd.prog Tryd.lays102_ren := {
  mixed := by kernel_rfl
  f102 := Tryd.func41.trans (congrArg some (by kernel_rfl))
  f207 := Tryd.func65.trans (congrArg some (by kernel_rfl))
  f209 := Tryd.func66.trans (congrArg some (by kernel_rfl))
  t3 := Tryd.underlying3
  a3 := Tryd.isAgg3
  z3 := Tryd.sizeOf3
  v3 := Tryd.zeroValue3
  t4 := Tryd.underlying4
  a4 := Tryd.isAgg4
  z4 := Tryd.sizeOf4
  v4 := Tryd.zeroValue4
  t9 := Tryd.underlying9
  a9 := Tryd.isAgg9
  z9 := Tryd.sizeOf9
  v9 := Tryd.zeroValue9 }
open Go.RowKit Go.Lib in
theorem Tryd.strings_TrimSuffix (s p : ByteArray) (w : World) (hs : s.size ≤ 9223372036854775807) :
    Calls Tryd.prog 41 #[.string s, .string p] w fun e w' => e = .returned (.string ⟨(Lib.trimSuffix s.data.toList p.data.toList).toArray⟩) ∧ w' = w := Any.strings_TrimSuffix Tryd.lays102 s p w hs
open Go.RowKit Go.Lib in
def Tryd.lays146_ren : Go.Shelf.Ren := ⟨fun | 146 => 14 | 221 => 32 | 268 => 55 | 138 => 56 | 143 => 57 | 195 => 70 | 197 => 71 | 218 => 72 | 219 => 73 | 260 => 84 | 217 => 85 | 225 => 86 | 224 => 87 | 267 => 88 | 266 => 98 | 314 => 99 | n => n, fun | 9 => 9 | 31 => 36 | 3 => 3 | 4 => 4 | 0 => 0 | 105 => 95 | 21 => 21 | 5 => 5 | 46 => 102 | 119 => 119 | 139 => 122 | 138 => 121 | 146 => 124 | 51 => 123 | n => n, fun | 1 => 0 | 3 => 3 | 4 => 4 | n => n⟩
theorem Tryd.lays146 : Go.Proofs.Lays.n146 Tryd.prog Tryd.lays146_ren := {
  mixed := by kernel_rfl
  f138 := Tryd.func56.trans (congrArg some (by kernel_rfl))
  f143 := Tryd.func57.trans (congrArg some (by kernel_rfl))
  f146 := Tryd.func14.trans (congrArg some (by kernel_rfl))
  f195 := Tryd.func70.trans (congrArg some (by kernel_rfl))
  f197 := Tryd.func71.trans (congrArg some (by kernel_rfl))
  f217 := Tryd.func85.trans (congrArg some (by kernel_rfl))
  f218 := Tryd.func72.trans (congrArg some (by kernel_rfl))
  f219 := Tryd.func73.trans (congrArg some (by kernel_rfl))
  f221 := Tryd.func32.trans (congrArg some (by kernel_rfl))
  f224 := Tryd.func87.trans (congrArg some (by kernel_rfl))
  f225 := Tryd.func86.trans (congrArg some (by kernel_rfl))
  f260 := Tryd.func84.trans (congrArg some (by kernel_rfl))
  f266 := Tryd.func98.trans (congrArg some (by kernel_rfl))
  f267 := Tryd.func88.trans (congrArg some (by kernel_rfl))
  f268 := Tryd.func55.trans (congrArg some (by kernel_rfl))
  f314 := Tryd.func99.trans (congrArg some (by kernel_rfl))
  t0 := Tryd.underlying0
  a0 := Tryd.isAgg0
  z0 := Tryd.sizeOf0
  v0 := Tryd.zeroValue0
  t3 := Tryd.underlying3
  a3 := Tryd.isAgg3
  z3 := Tryd.sizeOf3
  v3 := Tryd.zeroValue3
  t4 := Tryd.underlying4
  a4 := Tryd.isAgg4
  z4 := Tryd.sizeOf4
  v4 := Tryd.zeroValue4
  t5 := Tryd.underlying5
  a5 := Tryd.isAgg5
  z5 := Tryd.sizeOf5
  v5 := Tryd.zeroValue5
  t9 := Tryd.underlying9
  a9 := Tryd.isAgg9
  z9 := Tryd.sizeOf9
  v9 := Tryd.zeroValue9
  t21 := Tryd.underlying21
  a21 := Tryd.isAgg21
  z21 := Tryd.sizeOf21
  v21 := Tryd.zeroValue21
  t31 := Tryd.underlying36
  a31 := Tryd.isAgg36
  z31 := Tryd.sizeOf36
  v31 := Tryd.zeroValue36
  t46 := Tryd.underlying102
  a46 := Tryd.isAgg102
  z46 := Tryd.sizeOf102
  v46 := Tryd.zeroValue102
  t51 := Tryd.underlying123
  a51 := Tryd.isAgg123
  z51 := Tryd.sizeOf123
  v51 := Tryd.zeroValue123
  t105 := Tryd.underlying95
  a105 := Tryd.isAgg95
  z105 := Tryd.sizeOf95
  v105 := Tryd.zeroValue95
  t119 := Tryd.underlying119
  a119 := Tryd.isAgg119
  z119 := Tryd.sizeOf119
  t138 := Tryd.underlying121
  a138 := Tryd.isAgg121
  z138 := Tryd.sizeOf121
  v138 := Tryd.zeroValue121
  t139 := Tryd.underlying122
  a139 := Tryd.isAgg122
  z139 := Tryd.sizeOf122
  v139 := Tryd.zeroValue122
  t146 := Tryd.underlying124
  a146 := Tryd.isAgg124
  z146 := Tryd.sizeOf124
  v146 := Tryd.zeroValue124
  g1 := by kernel_rfl
  g3 := by kernel_rfl
  g4 := by kernel_rfl }
open Go.RowKit Go.Lib in
theorem Tryd.strings_Split (s sep : ByteArray) (m : Int) (w : World) (hs : s.size < 4294967281) (hm : w.cell? ⟨0, 0, none⟩ = some (.int .i64 m)) (h1 : 1 ≤ sep.size) :
    Calls Tryd.prog 14 #[.string s, .string sep] w fun e w' =>
      e = .returned (.slice (some ⟨w.heap.size, 0, none⟩) (Lib.countB s sep + 1) (Lib.countB s sep + 1)) ∧ w' = w.alloc (.cells ((Lib.splitB sep 0 (Lib.countB s sep) s).map Value.string).toArray 9) := Any.strings_Split Tryd.lays146 (by kernel_rfl) s sep m w hs hm h1
end Go.Proofs

namespace Go.Proofs.YtpohhnihgegmfaaDoor
open Go.RowKit
set_option linter.unusedVariables false
set_option linter.unusedSimpArgs false

/-- the library's table of powers reads as it was laid, whatever is made new -/
def Tab (w : World) : Prop := Lib.TabBelow Tryd.prog w.heap.size w "internal/strconv.uint64pow10" .u64 Lib.pow10Tab
theorem Tab.ext {w w' : World} (h : Tab w) (x : Ext w w') : Tab w' := fun w'' x' => h w'' (Ext.trans x x')
theorem decimal_c (n : Int) (w : World) (h0 : -9223372036854775808 ≤ n) (h1 : n ≤ 9223372036854775807) (ht : Tab w) :
    Calls Tryd.prog 35 #[.int .i64 n] w fun e w' => e = .returned (tx (Lib.itoa n)) ∧ Ext w w' := by
  go_enter Tryd.func35, Tryd.ntmps35
  go_wp2_with fail
  refine (Tryd.strconv_FormatInt_10 n h0 h1 w (ht w (Ext.refl w))).mono ?_
  rintro e w' ⟨rfl, k, os, rfl⟩
  go_wp2_with fail
  go_ret
  exact ⟨rfl, Lib.below_grow _ w (Nat.le_refl _) k os⟩
end Go.Proofs.YtpohhnihgegmfaaDoor

namespace Go.Proofs.YtpohhnihgegmfaaDoor
open Go.RowKit
set_option linter.unusedVariables false
set_option linter.unusedSimpArgs false

theorem itoa_len (n : Int) (h0 : -9223372036854775808 ≤ n) (h1 : n ≤ 9223372036854775807) : (Lib.itoa n).length ≤ 20 := by
  by_cases h : n = 0
  · rw [h, itoa_zero]; decide
  · by_cases hn : n < 0
    · obtain ⟨u, hu⟩ : ∃ u : Nat, n = -(u : Int) := ⟨n.natAbs, by omega⟩
      rw [hu, itoa_neg (by omega)]
      have := digs_len 19 u (by omega)
      simp; omega
    · obtain ⟨u, hu⟩ : ∃ u : Nat, n = (u : Int) := ⟨n.natAbs, by omega⟩
      rw [hu, itoa_pos (by omega)]
      have := digs_len 19 u (by omega)
      omega
/-- numbers with a blank between -/
def txt (f : Nat → Int) : Nat → List UInt8
  | 0 => []
  | j + 1 => (if j = 0 then [] else txt f j ++ [32]) ++ Lib.itoa (f j)
theorem txt_len {f : Nat → Int} {n : Nat} (h : ∀ j, j < n → -9223372036854775808 ≤ f j ∧ f j ≤ 9223372036854775807) : (txt f n).length ≤ 21 * n := by
  induction n with
  | zero => simp [txt]
  | succ n ih =>
    have h1 := ih (fun j hj => h j (by omega))
    have h2 := itoa_len (f n) (h n (by omega)).1 (h n (by omega)).2
    rw [txt]
    split
    · simp; omega
    · simp; omega
theorem txt_app (f : Nat → Int) {j : Nat} (h : 0 < j) : txt f (j + 1) = txt f j ++ [32] ++ Lib.itoa (f j) := by rw [txt, if_neg (by omega)]
theorem txt_one (f : Nat → Int) : txt f 1 = Lib.itoa (f 0) := by rw [txt, if_pos rfl]; rfl
theorem s1_four {w : World} {g : Nat} {T : TypeId} {a b c d : Int} (h : Blk w g T #[.int .i64 a, .int .i64 b, .int .i64 c, .int .i64 d]) (z : Nat → Int) (z0 : z 0 = a) (z1 : z 1 = b) (z2 : z 2 = c) (z3 : z 3 = d) : S1 w (some ⟨g, 0, none⟩) 4 z := fun _ =>
  ⟨g, 0, rfl, h.lt, fun j hj => by
    rw [Nat.zero_add, h.cell]
    (obtain rfl | rfl | rfl | rfl : j = 0 ∨ j = 1 ∨ j = 2 ∨ j = 3 := by omega) <;> simp [z0, z1, z2, z3]⟩
theorem two_new' (w : World) (T U : TypeId) (c1 c2 : Array Value) : Blk ((w.alloc (.cells c1 T)).alloc (.cells c2 U)) (w.heap.size + 1) U c2 := by
  have := Blk.new (w.alloc (.cells c1 T)) c2 U
  rwa [World.size_alloc] at this
/-- a fault's text -/
def ft (a b c d : Int) : List UInt8 := Lib.itoa a ++ [32] ++ Lib.itoa b ++ [32] ++ Lib.itoa c ++ [32] ++ Lib.itoa d
structure B64 (n : Int) : Prop where
  lo : -9223372036854775808 ≤ n
  hi : n ≤ 9223372036854775807
end Go.Proofs.YtpohhnihgegmfaaDoor

namespace Go.Proofs.YtpohhnihgegmfaaDoor
set_option linter.unusedVariables false

/-- a sum -/
def sm (f : Nat → Int) : Nat → Int
  | 0 => 0
  | k + 1 => sm f k + f k
theorem sm_bd {f : Nat → Int} {A B : Int} {k : Nat} (hf : ∀ j, j < k → A ≤ f j ∧ f j ≤ B) : A * k ≤ sm f k ∧ sm f k ≤ B * k := by
  induction k with
  | zero => simp [sm]
  | succ k ih =>
    have h1 := ih (fun j hj => hf j (by omega))
    have h2 := hf k (by omega)
    have h3 : A * ((k + 1 : Nat) : Int) = A * k + A := by rw [Int.natCast_add, Int.mul_add]; simp
    have h4 : B * ((k + 1 : Nat) : Int) = B * k + B := by rw [Int.natCast_add, Int.mul_add]; simp
    simp only [sm]
    omega
theorem sm_add (f : Nat → Int) (m k : Nat) : sm f (m + k) = sm f m + sm (fun i => f (m + i)) k := by
  induction k with
  | zero => simp [sm]
  | succ k ih =>
    rw [← Nat.add_assoc]
    simp only [sm, ih]; omega
theorem sm_congr {f g : Nat → Int} {k : Nat} (h : ∀ j, j < k → f j = g j) : sm f k = sm g k := by
  induction k with
  | zero => rfl
  | succ k ih => simp only [sm, ih fun j hj => h j (by omega), h k (by omega)]
theorem sm_mono {f : Nat → Int} {i k : Nat} (hk : i ≤ k) (hf : ∀ j, j < k → 0 ≤ f j) : sm f i ≤ sm f k := by
  induction k with
  | zero => have : i = 0 := by omega
            subst this; exact Int.le_refl _
  | succ k ih =>
    by_cases e : i = k + 1
    · subst e; exact Int.le_refl _
    · have := ih (by omega) fun j hj => hf j (by omega)
      have := hf k (by omega)
      simp only [sm]; omega
theorem sm_lt {f : Nat → Int} {i k : Nat} (hk : i < k) (hf : ∀ j, j < k → 1 ≤ f j) : sm f i < sm f k := by
  have h1 := sm_mono (f := f) (i := i + 1) (k := k) hk fun j hj => by have := hf j hj; omega
  have h2 := hf i hk
  simp only [sm] at h1; omega
/-- a place is told by its sum -/
theorem sm_place {f : Nat → Int} {i j n : Nat} {x : Int} (hf : ∀ k, k < n → 1 ≤ f k) (hi : i < n) (hj : j < n) (h1 : sm f i ≤ x) (h2 : x < sm f (i + 1)) (h3 : sm f j ≤ x) (h4 : x < sm f (j + 1)) : i = j := by
  rcases Nat.lt_trichotomy i j with h | h | h
  · have := sm_mono (f := f) (i := i + 1) (k := j) h fun k hk => by have := hf k (by omega); omega
    omega
  · exact h
  · have := sm_mono (f := f) (i := j + 1) (k := i) h fun k hk => by have := hf k (by omega); omega
    omega
/-- a calendar: rules and months, as numbers -/
structure CalN where
  nr : Nat
  ev : Nat → Int
  rs : Nat → Int
  lf : Nat → Bool
  n : Nat
  dy : Nat → Int
  lp : Nat → Int
/-- what a valid one bounds -/
structure CalB (c : CalN) : Prop where
  nr6 : c.nr ≤ 6
  n1 : 1 ≤ c.n
  n20 : c.n ≤ 20
  ev : ∀ j, j < c.nr → 1 ≤ c.ev j ∧ c.ev j ≤ 1000
  rs : ∀ j, j < c.nr → 0 ≤ c.rs j ∧ c.rs j ≤ c.ev j - 1
  dy : ∀ j, j < c.n → 1 ≤ c.dy j ∧ c.dy j ≤ 60
  lp : ∀ j, j < c.n → 1 ≤ c.lp j ∧ c.lp j ≤ 60
  cy : cyY c.ev c.nr ≤ 2000
/-- a leap year -/
def CalN.leap (c : CalN) (y : Int) : Bool := lpTo c.ev c.rs c.lf y c.nr
/-- the days of month j (from 0 on) of year y -/
def CalN.mo (c : CalN) (y : Int) (j : Nat) : Int := if c.leap y then c.lp j else c.dy j
/-- the days of a year -/
def CalN.yl (c : CalN) (y : Int) : Int := sm (c.mo y) c.n
/-- the days of the years before year k -/
def CalN.bef (c : CalN) (k : Nat) : Int := sm (fun i => c.yl (i : Int)) k
/-- the years of the cycle -/
def CalN.cyc (c : CalN) : Int := cyY c.ev c.nr
theorem CalB.cyc1 {c : CalN} (b : CalB c) : 1 ≤ c.cyc ∧ c.cyc ≤ 2000 := ⟨(cyY_bd b.ev).1, b.cy⟩
theorem CalB.mo {c : CalN} (b : CalB c) (y : Int) {j : Nat} (hj : j < c.n) : 1 ≤ c.mo y j ∧ c.mo y j ≤ 60 := by
  unfold CalN.mo; split
  · exact b.lp j hj
  · exact b.dy j hj
theorem CalB.yl {c : CalN} (b : CalB c) (y : Int) : 1 ≤ c.yl y ∧ c.yl y ≤ 1200 := by
  have h1 := sm_bd (f := c.mo y) (A := 1) (B := 60) (k := c.n) fun j hj => b.mo y hj
  have := b.n1; have := b.n20
  unfold CalN.yl; omega
theorem CalB.bef {c : CalN} (b : CalB c) (k : Nat) : (k : Int) ≤ c.bef k ∧ c.bef k ≤ 1200 * k := by
  have h1 := sm_bd (f := fun i => c.yl (i : Int)) (A := 1) (B := 1200) (k := k) fun j _ => b.yl _
  unfold CalN.bef; omega
theorem CalB.leap_add {c : CalN} (b : CalB c) (y : Int) : c.leap (y + c.cyc) = c.leap y :=
  lpTo_add (fun k hk => cyY_dvd b.cy hk) y
theorem CalB.yl_add {c : CalN} (b : CalB c) (y : Int) : c.yl (y + c.cyc) = c.yl y := by
  have h : c.mo (y + c.cyc) = c.mo y := by funext j; unfold CalN.mo; rw [b.leap_add]
  unfold CalN.yl; rw [h]
theorem CalB.leap_mul {c : CalN} (b : CalB c) (y : Int) (q : Nat) : c.leap (y + q * c.cyc) = c.leap y := by
  induction q with
  | zero => simp
  | succ q ih =>
    have h1 : y + ((q + 1 : Nat) : Int) * c.cyc = (y + q * c.cyc) + c.cyc := by rw [Int.natCast_add, Int.add_mul]; simp; omega
    rw [h1, b.leap_add, ih]
theorem CalB.yl_mul {c : CalN} (b : CalB c) (y : Int) (q : Nat) : c.yl (y + q * c.cyc) = c.yl y := by
  have h : c.mo (y + q * c.cyc) = c.mo y := by funext j; unfold CalN.mo; rw [b.leap_mul]
  unfold CalN.yl; rw [h]
/-- the years of the cycle, as a natural number -/
theorem CalB.cycN {c : CalN} (b : CalB c) : ∃ C : Nat, c.cyc = C ∧ 1 ≤ C ∧ C ≤ 2000 := by
  have h := b.cyc1
  exact ⟨c.cyc.toNat, by omega, by omega, by omega⟩
/-- the days before a year, by cycles -/
theorem CalB.bef_mul {c : CalN} (b : CalB c) {C : Nat} (hC : c.cyc = C) (q r : Nat) : c.bef (q * C + r) = q * c.bef C + c.bef r := by
  have h0 : ∀ q, c.bef (q * C) = q * c.bef C := by
    intro q
    induction q with
    | zero => simp [CalN.bef, sm]
    | succ q ih =>
      have h1 : c.bef ((q + 1) * C) = c.bef (q * C) + c.bef C := by
        unfold CalN.bef
        rw [Nat.add_mul, Nat.one_mul, sm_add]
        congr 1
        refine sm_congr fun j _ => ?_
        show c.yl ((q * C + j : Nat) : Int) = c.yl (j : Int)
        have h2 : ((q * C + j : Nat) : Int) = (j : Int) + q * c.cyc := by rw [hC, Int.natCast_add, Int.natCast_mul]; omega
        rw [h2, b.yl_mul]
      rw [h1, ih, Int.natCast_add, Int.add_mul]; simp
  unfold CalN.bef at h0 ⊢
  rw [sm_add, h0]
  congr 1
  refine sm_congr fun j _ => ?_
  show c.yl ((q * C + j : Nat) : Int) = c.yl (j : Int)
  have h2 : ((q * C + j : Nat) : Int) = (j : Int) + q * c.cyc := by rw [hC, Int.natCast_add, Int.natCast_mul]; omega
  rw [h2, b.yl_mul]
/-- the number of a day -/
def CalN.num (c : CalN) (y : Nat) (m : Nat) (d : Int) : Int := c.bef y + sm (c.mo (y : Int)) m + d - 1
/-- year y, month m (from 0 on), day d is the day with number x -/
structure Loc (c : CalN) (x : Int) (y m : Nat) (d : Int) : Prop where
  y0 : c.bef y ≤ x
  y1 : x < c.bef (y + 1)
  mn : m < c.n
  m0 : sm (c.mo (y : Int)) m ≤ x - c.bef y
  m1 : x - c.bef y < sm (c.mo (y : Int)) (m + 1)
  dd : d = x - c.bef y - sm (c.mo (y : Int)) m + 1
theorem Loc.one {c : CalN} (b : CalB c) {x : Int} {y m y' m' : Nat} {d d' : Int} (h : Loc c x y m d) (k : Loc c x y' m' d') : y = y' ∧ m = m' ∧ d = d' := by
  have e1 : y = y' := sm_place (f := fun i => c.yl (i : Int)) (n := y + y' + 1) (fun j _ => (b.yl _).1) (by omega) (by omega) h.y0 h.y1 k.y0 k.y1
  subst e1
  have e2 : m = m' := sm_place (fun j hj => (b.mo (y : Int) hj).1) h.mn k.mn h.m0 h.m1 k.m0 k.m1
  subst e2
  exact ⟨rfl, rfl, by rw [h.dd, k.dd]⟩
end Go.Proofs.YtpohhnihgegmfaaDoor

namespace Go.Proofs.YtpohhnihgegmfaaDoor
set_option linter.unusedVariables false
def sgn (a b : Int) : Int := if a < b then -1 else if b < a then 1 else 0
/-- the first number that is not 0, or 0 -/
def orV (z : Nat → Int) : Nat → Int
  | 0 => 0
  | n + 1 => if orV z n ≠ 0 then orV z n else z n
theorem orV_zero {z : Nat → Int} {n : Nat} (h : ∀ k, k < n → z k = 0) : orV z n = 0 := by
  induction n with
  | zero => rfl
  | succ n ih => simp only [orV, ih fun k hk => h k (by omega)]; simpa using h n (by omega)
theorem orV_hit {z : Nat → Int} {j n : Nat} (hj : j < n) (h : ∀ k, k < j → z k = 0) (h1 : z j ≠ 0) : orV z n = z j := by
  induction n with
  | zero => omega
  | succ n ih =>
    by_cases e : j = n
    · subst e; simp only [orV, orV_zero h]; simp
    · have := ih (by omega); simp only [orV, this]; simp [h1]
def cmpD (y m d y' m' d' : Int) : Int := if y ≠ y' then sgn y y' else if m ≠ m' then sgn m m' else sgn d d'
theorem sgn_zero {a b : Int} : sgn a b = 0 ↔ a = b := by unfold sgn; split <;> (try split) <;> omega
theorem cmpD_or {y m d y' m' d' : Int} {z : Nat → Int} (h0 : z 0 = sgn y y') (h1 : z 1 = sgn m m') (h2 : z 2 = sgn d d') : orV z 3 = cmpD y m d y' m' d' := by
  unfold cmpD
  by_cases a : y = y'
  · by_cases b : m = m'
    · have e0 : z 0 = 0 := by rw [h0, sgn_zero]; exact a
      have e1 : z 1 = 0 := by rw [h1, sgn_zero]; exact b
      simp only [orV, e0, e1]; simp [a, b, h2]
    · have e0 : z 0 = 0 := by rw [h0, sgn_zero]; exact a
      have e1 : z 1 ≠ 0 := by rw [h1, Ne, sgn_zero]; exact b
      simp only [orV, e0]; simp [e1]; simp [a, b, h1]
  · have e0 : z 0 ≠ 0 := by rw [h0, Ne, sgn_zero]; exact a
    simp only [orV]; simp [e0]; simp [a, h0]
end Go.Proofs.YtpohhnihgegmfaaDoor

namespace Go.Proofs.YtpohhnihgegmfaaDoor
open Go.RowKit
set_option linter.unusedVariables false
set_option linter.unusedSimpArgs false

theorem within_c (n l h : Int) (w : World) :
    Calls Tryd.prog 43 #[.int .i64 n, .int .i64 l, .int .i64 h] w fun e w' => e = .returned (.bool (inB n l h)) ∧ w = w' := by
  go_enter Tryd.func43, Tryd.ntmps43
  go_wp2
  all_goals (go_ret; refine ⟨ret_bool ?_, rfl⟩; rw [Bool.eq_iff_iff]; simp [inB]; try omega)
theorem l00In_c (n l h : Int) (w : World) :
    Calls Tryd.prog 37 #[.int .i64 n, .int .i64 l, .int .i64 h] w fun e w' => e = .returned (.bool (inB n l h)) ∧ w = w' := by
  go_enter Tryd.func37, Tryd.ntmps37
  go_wp2
  all_goals (go_ret; refine ⟨ret_bool ?_, rfl⟩; rw [Bool.eq_iff_iff]; simp [inB]; try omega)
end Go.Proofs.YtpohhnihgegmfaaDoor

namespace Go.Proofs.YtpohhnihgegmfaaDoor
open Go.RowKit
set_option linter.unusedVariables false
set_option linter.unusedSimpArgs false

theorem tmod_bd {a b : Int} (ha : 0 ≤ a) (hb : 0 < b) : a % b = a.tmod b ∧ 0 ≤ a % b ∧ a % b < b := ⟨by rw [Int.tmod_eq_emod_of_nonneg ha], Int.emod_nonneg _ (by omega), Int.emod_lt_of_pos _ hb⟩
set_option maxHeartbeats 400000 in
theorem l02Gcd_c (a b : Int) (w : World) (ha : 0 ≤ a) (hb : 0 ≤ b) (ha' : a ≤ 1000000000000) (hb' : b ≤ 1000000000000) :
    Calls Tryd.prog 81 #[.int .i64 a, .int .i64 b] w fun e w' => e = .returned (.int .i64 (gcdI a b)) ∧ w = w' := by
  go_enter Tryd.func81, Tryd.ntmps81
  go_wp2_with fail
  go_loop [0, 1] (fun x y => ∃ p q : Int, x = .int .i64 p ∧ y = .int .i64 q ∧ 0 ≤ p ∧ p ≤ 1000000000000 ∧ 0 ≤ q ∧ q ≤ 1000000000000 ∧ gcdI p q = gcdI a b) (fun _ y => (intOf y).toNat)
  case atStart => exact ⟨a, b, rfl, rfl, ha, ha', hb, hb', rfl⟩
  case round =>
    obtain ⟨p, q, rfl, rfl, p0, p1, q0, q1, hg⟩ := hrel
    have HG := Lib.hid hg
    clear hg
    by_cases h : 0 < q
    · obtain ⟨t0, t1, t2⟩ := tmod_bd p0 h
      have hs := gcdI_step p0 h
      rw [← t0] at hs
      have HSS := Lib.hid hs
      clear hs t0
      go_wp2_with fail
      exact ⟨⟨q, p % q, rfl, by go_num, by omega, by omega, by omega, by omega, HSS.out.trans HG.out⟩, by simp [intOf]; omega⟩
    · obtain rfl : q = 0 := by omega
      go_wp2_with fail
      go_ret
      exact ⟨ret_i64 (by rw [← HG.out, gcdI_zero p0]), rfl⟩
set_option maxHeartbeats 400000 in
theorem gcd_c (a b : Int) (w : World) (ha : 0 ≤ a) (hb : 0 ≤ b) (ha' : a ≤ 1000000000000) (hb' : b ≤ 1000000000000) :
    Calls Tryd.prog 68 #[.int .i64 a, .int .i64 b] w fun e w' => e = .returned (.int .i64 (gcdI a b)) ∧ Ext w w' := by
  go_enter Tryd.func68, Tryd.ntmps68
  go_wp2_with fail
  go_loopw [0, 1] (fun x y wr => ∃ p q : Int, x = .int .i64 p ∧ y = .int .i64 q ∧ 0 ≤ p ∧ p ≤ 1000000000000 ∧ 0 ≤ q ∧ q ≤ 1000000000000 ∧ Ext w wr ∧ gcdI p q = gcdI a b) (fun _ y _ => (intOf y).toNat)
  case atStart => exact ⟨a, b, rfl, rfl, ha, ha', hb, hb', (by repeat (first | with_reducible exact Ext.refl _ | with_reducible assumption | with_reducible refine Ext.alloc ?_ _ | with_reducible refine Ext.drew ?_ | (with_reducible refine Ext.setAt ?_ _ _ _ ?_; rotate_left; omega) | with_reducible refine Ext.trans ?_ (by assumption) | with_reducible exact Past.bel _ | with_reducible refine Ext.trans ?_ (Past.bel _))), rfl⟩
  case round =>
    obtain ⟨p, q, rfl, rfl, p0, p1, q0, q1, hbl, hg⟩ := hrel
    have HG := Lib.hid hg
    clear hg
    by_cases h : q = 0
    · subst h
      have x0 : ¬ p < 0 := by omega
      go_wp2_with fail
      go_ret
      exact ⟨ret_i64 (by rw [← HG.out, gcdI_zero p0]), (by repeat (first | with_reducible exact Ext.refl _ | with_reducible assumption | with_reducible refine Ext.alloc ?_ _ | with_reducible refine Ext.drew ?_ | (with_reducible refine Ext.setAt ?_ _ _ _ ?_; rotate_left; omega) | with_reducible refine Ext.trans ?_ (by assumption) | with_reducible exact Past.bel _ | with_reducible refine Ext.trans ?_ (Past.bel _)))⟩
    · have h' : 0 < q := by omega
      obtain ⟨t0, t1, t2⟩ := tmod_bd p0 h'
      have hs := gcdI_step p0 h'
      rw [← t0] at hs
      have HSS := Lib.hid hs
      have e0 : (q != 0) = true := by simpa using h
      clear hs t0 h
      go_wp2_with fail
      refine wp_region_past (by kernel_rfl) (by kernel_rfl) ?_
      repeat (go_big_quiet_step (fail))
      refine wpQuiet_nil ?_
      rintro _ ⟨wx, rfl⟩
      go_wp2_with fail
      exact ⟨⟨q, p % q, rfl, by go_num, by omega, by omega, by omega, by omega, (by repeat (first | with_reducible exact Ext.refl _ | with_reducible assumption | with_reducible refine Ext.alloc ?_ _ | with_reducible refine Ext.drew ?_ | (with_reducible refine Ext.setAt ?_ _ _ _ ?_; rotate_left; omega) | with_reducible refine Ext.trans ?_ (by assumption) | with_reducible exact Past.bel _ | with_reducible refine Ext.trans ?_ (Past.bel _))), HSS.out.trans HG.out⟩, by simp [intOf]; omega⟩
end Go.Proofs.YtpohhnihgegmfaaDoor

namespace Go.Proofs.YtpohhnihgegmfaaDoor
open Go.ChangeShapes Go.WideShapes Go.RowKit Go.Deep
set_option linter.unusedVariables false
section
variable {H : Type} {enc : TypeId × Value → H} {P : Program} {w : World} {base : Nat} {spare : Nat → Bool} {held : Bool}
/-- a slice of structs of one cell a field, at whatever depth -/
theorem down_rows {t e : TypeId} {fs : Array Field} {fuel : Nat} {v : Value} {x : DataW H × List MemPlace} (ht : P.underlying t = some (.slice e)) (hs : P.underlying e = some (.struct fs)) (hone : oneCellFields P fs = true) (hC : P.cellsOf e = fs.size) (hpos : 0 < fs.size)
    (hf : DataW.trod enc P w base spare held fuel t [v] = some x) :
    ∃ (a : Option Addr) (n cap : Nat) (z : Nat → Nat → Value), v = .slice a n cap ∧ n ≤ cap ∧ cap ≤ maxLen ∧
      (0 < n → ∃ b off, a = some ⟨b, off, none⟩ ∧ b < w.heap.size ∧ ∀ i, i < n → ∀ j (hj : j < fs.size), w.cell? ⟨b, off + i * fs.size + j, none⟩ = some (z i j) ∧ ∃ m y, DataW.trod enc P w base spare held m fs[j].type [z i j] = some y) := by
  rcases open_slice ht hf with ⟨hcs, _⟩ | ⟨a', len', cap', m, n', D, Pl, hcs, hb, hl, hm, hmm, hx, hcell⟩
  · simp at hcs
    subst hcs
    exact ⟨none, 0, 0, fun _ _ => .bool false, rfl, Nat.le_refl _, Nat.zero_le _, fun h => absurd h (Nat.lt_irrefl 0)⟩
  · simp at hcs
    subst hcs
    have hlm : len' ≤ m := by rw [hmm]; split <;> omega
    have hel : ∀ i, i < len' → ∃ z : Nat → Value, ∀ j (hj : j < fs.size), w.cell? (a'.add (i * fs.size + j)) = some (z j) ∧ ∃ m y, DataW.trod enc P w base spare held m fs[j].type [z j] = some y := fun i hi' => by
      obtain ⟨cs', hc, ht'⟩ := hcell i (by omega)
      rw [hC] at hc
      obtain ⟨_, hcl, hat⟩ := World.cells?_some hc
      obtain ⟨k, hl', hfl⟩ := down_struct hs hone hC ht'
      refine ⟨fun j => cs'.getD j (.bool false), fun j hj => ?_⟩
      obtain ⟨v', y, hv', hy⟩ := hfl j fs[j] (Array.getElem?_eq_getElem hj)
      have e1 : cs'.getD j (.bool false) = v' := by simp [List.getD, hv']
      refine ⟨?_, k, y, by show DataW.trod enc P w base spare held k fs[j].type [cs'.getD j (.bool false)] = some y; rw [e1]; exact hy⟩
      show w.cell? (a'.add (i * fs.size + j)) = some (cs'.getD j (.bool false))
      rw [← Go.Deep.add_add, hat j hj, e1]; exact hv'
    obtain ⟨z, hz⟩ := choose_lt hel
    refine ⟨some a', len', cap', z, rfl, hl, hm, fun hn => ?_⟩
    obtain ⟨b, off, spot⟩ := a'
    have h0 := (hz 0 hn 0 hpos).1
    have hspot : spot = none := by simpa [Addr.add] using World.cell?_spot h0
    subst hspot
    refine ⟨b, off, rfl, World.block_lt_of_cell? w ⟨b, off, none⟩ (by simpa [Addr.add] using h0), fun i hi' j hj => ?_⟩
    have h1 := hz i hi' j hj
    rw [Addr.add_lit] at h1
    rw [Nat.add_assoc]; exact h1
/-- a slice of int64s -/
theorem down_i64s {t e : TypeId} {fuel : Nat} {v : Value} {x : DataW H × List MemPlace} (ht : P.underlying t = some (.slice e)) (he : P.underlying e = some (.int .i64)) (hC : P.cellsOf e = 1)
    (hf : DataW.trod enc P w base spare held fuel t [v] = some x) :
    ∃ (a : Option Addr) (n cap : Nat) (z : Nat → Int), v = .slice a n cap ∧ n ≤ cap ∧ cap ≤ maxLen ∧ S1 w a n z ∧ ∀ j, j < n → (Lit.int .i64 (z j)).wf = true := by
  rcases open_slice ht hf with ⟨hcs, _⟩ | ⟨a', len', cap', m, n', D, Pl, hcs, hb, hl, hm, hmm, hx, hcell⟩
  · simp at hcs
    subst hcs
    exact ⟨none, 0, 0, fun _ => 0, rfl, Nat.le_refl _, Nat.zero_le _, (fun h => absurd h (Nat.lt_irrefl 0)), fun j hj => absurd hj (Nat.not_lt_zero j)⟩
  · simp at hcs
    subst hcs
    have hlm : len' ≤ m := by rw [hmm]; split <;> omega
    have hel : ∀ i, i < len' → ∃ z : Int, w.cell? (a'.add i) = some (.int .i64 z) ∧ (Lit.int .i64 z).wf = true := fun i hi' => by
      obtain ⟨cs', hc, ht'⟩ := hcell i (by omega)
      rw [hC] at hc
      obtain ⟨_, hcl, hat⟩ := World.cells?_some hc
      obtain ⟨z, hz, _, hw⟩ := DataW.trod_int he ht'
      subst hz
      have := hat 0 (by omega)
      refine ⟨z, ?_, hw⟩
      have e1 : a'.add i = (a'.add (i * 1)).add 0 := by rw [Go.Deep.add_add]; simp
      rw [e1, this]; rfl
    obtain ⟨z, hz⟩ := choose_lt hel
    refine ⟨some a', len', cap', z, rfl, hl, hm, fun hn => ?_, fun j hj => (hz j hj).2⟩
    obtain ⟨b, off, spot⟩ := a'
    have h0 := (hz 0 hn).1
    have hspot : spot = none := by simpa [Addr.add] using World.cell?_spot h0
    subst hspot
    refine ⟨b, off, rfl, World.block_lt_of_cell? w ⟨b, off, none⟩ (by simpa [Addr.add] using h0), fun i hi' => ?_⟩
    have h1 := (hz i hi').1
    rw [Addr.add_lit] at h1
    exact h1
theorem arg_i64s {r : Reach} {b0 : Nat} {t e : TypeId} {v : Value} {d : DataW H} {p : List MemPlace} (ht : P.underlying t = some (.slice e)) (he : P.underlying e = some (.int .i64)) (hC : P.cellsOf e = 1)
    (hv : Value.okWide P w r b0 t v) (h : DataW.Trod enc P w base spare held t v d p) :
    ∃ (a : Option Addr) (n cap : Nat) (z : Nat → Int), v = .slice a n cap ∧ n ≤ cap ∧ cap ≤ maxLen ∧ S1 w a n z ∧ ∀ j, j < n → (Lit.int .i64 (z j)).wf = true := by
  obtain ⟨a, n, cap, rfl⟩ := okWide_slice ht hv
  obtain ⟨fuel, hf⟩ := h
  exact down_i64s ht he hC (fuel := fuel) (by simpa [Value.cells] using hf)
end
/-- A slice of structs of 'k' cells: cell j of element i is 'z i j'. -/
def SK (w : World) (a : Option Addr) (n k : Nat) (z : Nat → Nat → Value) : Prop :=
  0 < n → ∃ b off, a = some ⟨b, off, none⟩ ∧ b < w.heap.size ∧ ∀ i, i < n → ∀ j, j < k → w.cell? ⟨b, off + i * k + j, none⟩ = some (z i j)
/-- Months: a name and two numbers each. -/
def S3 (w : World) (a : Option Addr) (n : Nat) (nm : Nat → ByteArray) (dy lp : Nat → Int) : Prop :=
  0 < n → ∃ b off, a = some ⟨b, off, none⟩ ∧ b < w.heap.size ∧ ∀ i, i < n → w.cell? ⟨b, off + i * 3, none⟩ = some (.string (nm i)) ∧ w.cell? ⟨b, off + i * 3 + 1, none⟩ = some (.int .i64 (dy i)) ∧ w.cell? ⟨b, off + i * 3 + 2, none⟩ = some (.int .i64 (lp i))
/-- Rules: two numbers and a truth value each. -/
def R3 (w : World) (a : Option Addr) (n : Nat) (ev rs : Nat → Int) (lf : Nat → Bool) : Prop :=
  0 < n → ∃ b off, a = some ⟨b, off, none⟩ ∧ b < w.heap.size ∧ ∀ i, i < n → w.cell? ⟨b, off + i * 3, none⟩ = some (.int .i64 (ev i)) ∧ w.cell? ⟨b, off + i * 3 + 1, none⟩ = some (.int .i64 (rs i)) ∧ w.cell? ⟨b, off + i * 3 + 2, none⟩ = some (.bool (lf i))
theorem S3.ext {w w' : World} {a : Option Addr} {n : Nat} {nm : Nat → ByteArray} {dy lp : Nat → Int} (s : S3 w a n nm dy lp) (e : Ext w w') : S3 w' a n nm dy lp := fun hn => by
  obtain ⟨b, off, ha, hb, hc⟩ := s hn
  exact ⟨b, off, ha, Nat.lt_of_lt_of_le hb e.size, fun j hj => by rw [e.cell hb, e.cell hb, e.cell hb]; exact hc j hj⟩
theorem S3.at {w : World} {a : Option Addr} {n : Nat} {nm : Nat → ByteArray} {dy lp : Nat → Int} (s : S3 w a n nm dy lp) {j : Nat} (hj : j < n) :
    ∃ b off, a = some ⟨b, off, none⟩ ∧ b < w.heap.size ∧ w.cell? ⟨b, off + j * 3, none⟩ = some (.string (nm j)) ∧ w.cell? ⟨b, off + j * 3 + 1, none⟩ = some (.int .i64 (dy j)) ∧ w.cell? ⟨b, off + j * 3 + 2, none⟩ = some (.int .i64 (lp j)) := by
  obtain ⟨b, off, ha, hb, hc⟩ := s (by omega)
  exact ⟨b, off, ha, hb, hc j hj⟩
theorem R3.ext {w w' : World} {a : Option Addr} {n : Nat} {ev rs : Nat → Int} {lf : Nat → Bool} (s : R3 w a n ev rs lf) (e : Ext w w') : R3 w' a n ev rs lf := fun hn => by
  obtain ⟨b, off, ha, hb, hc⟩ := s hn
  exact ⟨b, off, ha, Nat.lt_of_lt_of_le hb e.size, fun j hj => by rw [e.cell hb, e.cell hb, e.cell hb]; exact hc j hj⟩
theorem R3.at {w : World} {a : Option Addr} {n : Nat} {ev rs : Nat → Int} {lf : Nat → Bool} (s : R3 w a n ev rs lf) {j : Nat} (hj : j < n) :
    ∃ b off, a = some ⟨b, off, none⟩ ∧ b < w.heap.size ∧ w.cell? ⟨b, off + j * 3, none⟩ = some (.int .i64 (ev j)) ∧ w.cell? ⟨b, off + j * 3 + 1, none⟩ = some (.int .i64 (rs j)) ∧ w.cell? ⟨b, off + j * 3 + 2, none⟩ = some (.bool (lf j)) := by
  obtain ⟨b, off, ha, hb, hc⟩ := s (by omega)
  exact ⟨b, off, ha, hb, hc j hj⟩
end Go.Proofs.YtpohhnihgegmfaaDoor

namespace Go.Proofs.YtpohhnihgegmfaaDoor
open Go.RowKit
set_option linter.unusedVariables false
set_option linter.unusedSimpArgs false

end Go.Proofs.YtpohhnihgegmfaaDoor

namespace Go.Proofs.YtpohhnihgegmfaaDoor
open Go.RowKit
set_option linter.unusedVariables false
set_option linter.unusedSimpArgs false

abbrev sS (f : Nat → ByteArray) : Nat → Value := fun j => .string (f j)
abbrev sI (f : Nat → Int) : Nat → Value := fun j => .int .i64 (f j)
abbrev sB (f : Nat → Bool) : Nat → Value := fun j => .bool (f j)
/-- the first k elements of the cells 'cur' are the triples F -/
def C3 (cur : Array Value) (k : Nat) (F G H : Nat → Value) : Prop := ∀ j, j < k → cur[j * 3]? = some (F j) ∧ cur[j * 3 + 1]? = some (G j) ∧ cur[j * 3 + 2]? = some (H j)
theorem C3.zero (cur : Array Value) (F G H : Nat → Value) : C3 cur 0 F G H := fun j hj => absurd hj (Nat.not_lt_zero j)
theorem C3.step {cur : Array Value} {k : Nat} {F G H : Nat → Value} (c : C3 cur k F G H) (hk : k * 3 + 2 < cur.size) : C3 (((cur.setIfInBounds (k * 3) (F k)).setIfInBounds (k * 3 + 1) (G k)).setIfInBounds (k * 3 + 2) (H k)) (k + 1) F G H := fun j hj => by
  rcases Nat.lt_succ_iff_lt_or_eq.1 hj with hlt | rfl
  · obtain ⟨c1, c2, c3⟩ := c j hlt
    refine ⟨?_, ?_, ?_⟩
    · rw [Array.getElem?_setIfInBounds_ne (by omega), Array.getElem?_setIfInBounds_ne (by omega), Array.getElem?_setIfInBounds_ne (by omega), c1]
    · rw [Array.getElem?_setIfInBounds_ne (by omega), Array.getElem?_setIfInBounds_ne (by omega), Array.getElem?_setIfInBounds_ne (by omega), c2]
    · rw [Array.getElem?_setIfInBounds_ne (by omega), Array.getElem?_setIfInBounds_ne (by omega), Array.getElem?_setIfInBounds_ne (by omega), c3]
  · refine ⟨?_, ?_, ?_⟩
    · rw [Array.getElem?_setIfInBounds_ne (by omega), Array.getElem?_setIfInBounds_ne (by omega), Array.getElem?_setIfInBounds_self_of_lt (by omega)]
    · rw [Array.getElem?_setIfInBounds_ne (by omega), Array.getElem?_setIfInBounds_self_of_lt (by simp; omega)]
    · rw [Array.getElem?_setIfInBounds_self_of_lt (by simp; omega)]
theorem C3.s3 {w : World} {g n : Nat} {T : TypeId} {cur : Array Value} {nm : Nat → ByteArray} {dy lp : Nat → Int} (b : Blk w g T cur) (c : C3 cur n (sS nm) (sI dy) (sI lp)) : S3 w (some ⟨g, 0, none⟩) n nm dy lp := fun _ =>
  ⟨g, 0, rfl, b.lt, fun j hj => by rw [b.cell, b.cell, b.cell]; simpa using c j hj⟩
theorem C3.r3 {w : World} {g n : Nat} {T : TypeId} {cur : Array Value} {ev rs : Nat → Int} {lf : Nat → Bool} (b : Blk w g T cur) (c : C3 cur n (sI ev) (sI rs) (sB lf)) : R3 w (some ⟨g, 0, none⟩) n ev rs lf := fun _ =>
  ⟨g, 0, rfl, b.lt, fun j hj => by rw [b.cell, b.cell, b.cell]; simpa using c j hj⟩
end Go.Proofs.YtpohhnihgegmfaaDoor

namespace Go.Proofs.YtpohhnihgegmfaaDoor
open Go.RowKit
set_option linter.unusedVariables false
theorem app1t {P : Program} {w w0 : World} {ops : Array Oper} {o : Oper} {a : Act} {K : Act → World → Prop} {Q : Exit → Act → World → Prop} {E : Prop} (t e : TypeId) (s x : Operand)
    (hop : o.op = .call { callee := .builtin .append, args := #[s, x], argTypes := #[t, t] }) (hgd : o.guard = none)
    (ht : P.underlying t = some (.slice e)) (hinfo : (P.info? e).map (fun i => (i.zero, i.size, i.bytes)) = some (some (.int .i64 0), 1, 8))
    (v : Value) (l : List Int) (u : Int) (g : Nat) (hs : a.eval s = v) (hx : a.eval x = .slice (some ⟨g, 0, none⟩) 1 1) (hown : w.ownsRow w0.heap.size e 1 v l.length (l.map (Value.int .i64)))
    (hc : w.cell? ⟨g, 0, none⟩ = some (.int .i64 u)) (hl : l.length ≤ 1048576) (h0 : Ext w0 w)
    (hK : ∀ v' w', w'.ownsRow w0.heap.size e 1 v' (l ++ [u]).length ((l ++ [u]).map (Value.int .i64)) → Ext w0 w' → (∀ b i, b < w.heap.size → v.ownBlock ≠ some b → w'.cell? ⟨b, i, none⟩ = w.cell? ⟨b, i, none⟩) → K (a.put o.dst v') w') :
    if Region.wanted o (yielded ops a.tmps) = true then Oper.wp P o a w K Q else E := by
  obtain ⟨i, hi, hz, hsz, hb⟩ := info_parts hinfo
  refine step_append_lies w hgd s x t hop w0.heap.size e i (.int .i64 0) 1 8 ht hi hz hsz hb rfl (by decide) v l.length _ hs hown ⟨g, 0, none⟩ 1 1 [.int .i64 u] hx rfl ?_ ?_ (by decide) ?_ ?_ h0.size _ rfl ?_
  · intro j z hz'
    cases j with
    | zero =>
      simp at hz'; subst hz'
      simpa [Addr.add] using hc
    | succ j => simp at hz'
  · intro z hz'
    simp at hz'; subst hz'; rfl
  · unfold maxLen; omega
  · omega
  · intro g' cap w' h1 h2 _ _
    refine hK _ w' ?_ (h0.grown h2 fun k hk => (hown.lt k hk).1) (fun b i hb hne => h2.cell_far ⟨b, i, none⟩ hb (fun e => hne e.symm))
    have e1 : (l ++ [u]).length = l.length + 1 := by simp
    rw [e1]; simpa using h1
theorem own_base {w : World} {b0 b1 : Nat} {e : TypeId} {s : Nat} {v : Value} {n : Nat} {xs : List Value} (h : w.ownsRow b1 e s v n xs) (hb : b0 ≤ b1) : w.ownsRow b0 e s v n xs := by
  obtain ⟨h1, h2⟩ := h
  refine ⟨h1, ?_⟩
  rcases h2 with h2 | ⟨g, cap, cur, a, b, c⟩
  · exact .inl h2
  · exact .inr ⟨g, cap, cur, a, Nat.le_trans hb b, c⟩
end Go.Proofs.YtpohhnihgegmfaaDoor

namespace Go.Proofs.YtpohhnihgegmfaaDoor
open Go.RowKit
set_option linter.unusedVariables false
set_option linter.unusedSimpArgs false

theorem S3.set {w : World} {g n : Nat} {nm : Nat → ByteArray} {dy lp : Nat → Int} (h : S3 w (some ⟨g, 0, none⟩) n nm dy lp) {b : Nat} (hb : b ≠ g) (o : Nat) (u : Value) : S3 (w.setCell ⟨b, o, none⟩ u) (some ⟨g, 0, none⟩) n nm dy lp := fun hn => by
  obtain ⟨b', off', e, hl, hc⟩ := h hn
  obtain ⟨rfl, rfl⟩ : b' = g ∧ off' = 0 := by simp at e; exact ⟨e.1.symm, e.2.symm⟩
  have hx := grown_set (w := w) b o u
  refine ⟨b', 0, rfl, by simpa using hl, fun j hj => ?_⟩
  obtain ⟨c1, c2, c3⟩ := hc j hj
  refine ⟨?_, ?_, ?_⟩ <;> (rw [World.cell?_of_block (hx.block b' hl (fun e => hb (by simpa using e.symm)))]; assumption)
theorem R3.set {w : World} {g n : Nat} {ev rs : Nat → Int} {lf : Nat → Bool} (h : R3 w (some ⟨g, 0, none⟩) n ev rs lf) {b : Nat} (hb : b ≠ g) (o : Nat) (u : Value) : R3 (w.setCell ⟨b, o, none⟩ u) (some ⟨g, 0, none⟩) n ev rs lf := fun hn => by
  obtain ⟨b', off', e, hl, hc⟩ := h hn
  obtain ⟨rfl, rfl⟩ : b' = g ∧ off' = 0 := by simp at e; exact ⟨e.1.symm, e.2.symm⟩
  have hx := grown_set (w := w) b o u
  refine ⟨b', 0, rfl, by simpa using hl, fun j hj => ?_⟩
  obtain ⟨c1, c2, c3⟩ := hc j hj
  refine ⟨?_, ?_, ?_⟩ <;> (rw [World.cell?_of_block (hx.block b' hl (fun e => hb (by simpa using e.symm)))]; assumption)
theorem own_off {w : World} {base : Nat} {e : TypeId} {size g n cap : Nat} {xs : List Value} (h : w.ownsRow base e size (.slice (some ⟨g, 0, none⟩) n cap) n xs) {b : Nat} (hb : b ≠ g) (o : Nat) (u : Value) : (w.setCell ⟨b, o, none⟩ u).ownsRow base e size (.slice (some ⟨g, 0, none⟩) n cap) n xs :=
  h.kept (grown_set b o u) (.inr (fun e => hb (by simpa [Value.ownBlock] using e.symm)))
/-- a calendar's months and rules in memory -/
structure CalM (w : World) (ma ra : Option Addr) (nm : Nat → ByteArray) (c : CalN) : Prop where
  mo : S3 w ma c.n nm c.dy c.lp
  ru : R3 w ra c.nr c.ev c.rs c.lf
theorem CalM.ext {w w' : World} {ma ra : Option Addr} {nm : Nat → ByteArray} {c : CalN} (h : CalM w ma ra nm c) (e : Ext w w') : CalM w' ma ra nm c := ⟨h.mo.ext e, h.ru.ext e⟩
end Go.Proofs.YtpohhnihgegmfaaDoor

namespace Go.Proofs.YtpohhnihgegmfaaDoor
open Go.RowKit
set_option linter.unusedVariables false
set_option linter.unusedSimpArgs false

theorem tdiv_nn {a b : Int} (ha : 0 ≤ a) : a.tdiv b = a / b := Int.tdiv_eq_ediv_of_nonneg ha
set_option maxHeartbeats 1000000 in
theorem cycleYears_c (a : Option Addr) (n c : Nat) (ev rs : Nat → Int) (lf : Nat → Bool) (w : World) (hn : n ≤ 1048576) (hs : R3 w a n ev rs lf) (he : ∀ j, j < n → 1 ≤ ev j ∧ ev j ≤ 1000) :
    Calls Tryd.prog 46 #[.slice a n c] w fun e w' => e = .returned (.int .i64 (cyY ev n)) ∧ Ext w w' := by
  have HS := Lib.hid hs
  have HE := Lib.hid he
  clear hs he
  go_enter Tryd.func46, Tryd.ntmps46
  go_wp2_with fail
  go_loopw [3, 8] (fun y i wr => ∃ j : Nat, j ≤ n ∧ i = .int .i64 j ∧ y = .int .i64 (cyY ev j) ∧ Ext w wr) (fun _ i _ => n - (intOf i).toNat)
  case atStart => exact ⟨0, by omega, rfl, rfl, (by repeat (first | with_reducible exact Ext.refl _ | with_reducible assumption | with_reducible refine Ext.alloc ?_ _ | with_reducible refine Ext.drew ?_ | (with_reducible refine Ext.setAt ?_ _ _ _ ?_; rotate_left; omega) | with_reducible refine Ext.trans ?_ (by assumption) | with_reducible exact Past.bel _ | with_reducible refine Ext.trans ?_ (Past.bel _)))⟩
  case round =>
    obtain ⟨j, hj, rfl, rfl, hbl⟩ := hrel
    by_cases hlt : j < n
    · obtain ⟨b1, o1, rfl, hb1, q1, q2, q3⟩ := (R3.ext HS.out hbl).at hlt
      obtain ⟨y0, y1, g0, d0, d1, p0, p1⟩ := cyS (ev := ev) (k := j) fun i hi => HE.out i (by omega)
      have e1 := HE.out j hlt
      by_cases h2 : cyY ev j ≤ 2000
      · have st : cyY ev (j + 1) = cyY ev j / gcdI (cyY ev j) (ev j) * ev j := by simp only [cyY]; rw [if_pos h2]
        have ST := Lib.hid st
        obtain ⟨Y, hY⟩ : ∃ Y, Y = cyY ev j := ⟨_, rfl⟩
        rw [← hY] at y0 y1 g0 d0 d1 p0 p1 h2 ⊢
        obtain ⟨G, hG⟩ : ∃ G, G = gcdI Y (ev j) := ⟨_, rfl⟩
        rw [← hG] at g0 d0 d1 p0 p1
        have w1 := IntWalk.i64_in (Y / G) (by have := d1 h2; omega)
        have w2 := IntWalk.i64_in (Y / G * ev j) (by have := p1 h2; omega)
        have t1 : Y.tdiv G = Y / G := tdiv_nn (by omega)
        have cg : ∀ W, Calls Tryd.prog 68 #[.int .i64 Y, .int .i64 (ev j)] W fun e w' => e = .returned (.int .i64 G) ∧ Ext W w' := fun W => by
          rw [hG]; exact gcd_c _ _ _ (by omega) (by omega) (by omega) (by omega)
        have CG := Lib.hid cg
        have HY := Lib.hid hY
        have HG := Lib.hid hG
        clear st cg hY hG
        go_wp2_with fail
        refine wp_region_past (by kernel_rfl) (by kernel_rfl) ?_
        repeat (go_big_quiet_step ((go_at_call 68; exact Calls.past (CG.out _))))
        refine wpQuiet_nil ?_
        rintro _ ⟨wx, rfl⟩
        go_wp2_with fail
        exact ⟨⟨j + 1, by omega, by go_num, congrArg _ (by rw [ST.out, ← HY.out, ← HG.out]), (by repeat (first | with_reducible exact Ext.refl _ | with_reducible assumption | with_reducible refine Ext.alloc ?_ _ | with_reducible refine Ext.drew ?_ | (with_reducible refine Ext.setAt ?_ _ _ _ ?_; rotate_left; omega) | with_reducible refine Ext.trans ?_ (by assumption) | with_reducible exact Past.bel _ | with_reducible refine Ext.trans ?_ (Past.bel _)))⟩, by simp [intOf]; omega⟩
      · have st : cyY ev (j + 1) = cyY ev j := by simp only [cyY]; rw [if_neg h2]
        have ST := Lib.hid st
        clear st
        go_wp2_with fail
        exact ⟨⟨j + 1, by omega, by go_num, by rw [ST.out], (by repeat (first | with_reducible exact Ext.refl _ | with_reducible assumption | with_reducible refine Ext.alloc ?_ _ | with_reducible refine Ext.drew ?_ | (with_reducible refine Ext.setAt ?_ _ _ _ ?_; rotate_left; omega) | with_reducible refine Ext.trans ?_ (by assumption) | with_reducible exact Past.bel _ | with_reducible refine Ext.trans ?_ (Past.bel _)))⟩, by simp [intOf]; omega⟩
    · obtain rfl : j = n := by omega
      go_wp2_with fail
      go_ret
      exact ⟨rfl, (by repeat (first | with_reducible exact Ext.refl _ | with_reducible assumption | with_reducible refine Ext.alloc ?_ _ | with_reducible refine Ext.drew ?_ | (with_reducible refine Ext.setAt ?_ _ _ _ ?_; rotate_left; omega) | with_reducible refine Ext.trans ?_ (by assumption) | with_reducible exact Past.bel _ | with_reducible refine Ext.trans ?_ (Past.bel _)))⟩
end Go.Proofs.YtpohhnihgegmfaaDoor

namespace Go.Proofs.YtpohhnihgegmfaaDoor
open Go.RowKit
set_option linter.unusedVariables false
set_option linter.unusedSimpArgs false

end Go.Proofs.YtpohhnihgegmfaaDoor

namespace Go.Proofs.YtpohhnihgegmfaaDoor
open Go.RowKit
set_option linter.unusedVariables false
set_option linter.unusedSimpArgs false

end Go.Proofs.YtpohhnihgegmfaaDoor

namespace Go.Proofs.YtpohhnihgegmfaaDoor
open Go.RowKit
set_option linter.unusedVariables false
set_option linter.unusedSimpArgs false

end Go.Proofs.YtpohhnihgegmfaaDoor

namespace Go.Proofs.YtpohhnihgegmfaaDoor
open Go.RowKit
set_option linter.unusedVariables false
set_option linter.unusedSimpArgs false

end Go.Proofs.YtpohhnihgegmfaaDoor

namespace Go.Proofs.YtpohhnihgegmfaaDoor
open Go.RowKit
set_option linter.unusedVariables false
set_option linter.unusedSimpArgs false

theorem yl_if (c : CalN) (y : Int) : c.yl y = if c.leap y then sm c.lp c.n else sm c.dy c.n := by
  unfold CalN.yl CalN.mo
  cases c.leap y <;> rfl
end Go.Proofs.YtpohhnihgegmfaaDoor

namespace Go.Proofs.YtpohhnihgegmfaaDoor
open Go.RowKit
set_option linter.unusedVariables false
set_option linter.unusedSimpArgs false

/-- a calendar behind a pointer: its cells in block g -/
structure CalP (w : World) (g : Nat) (s : ByteArray) (ma ra : Option Addr) (mc rc : Nat) (wk : Int) (nm : Nat → ByteArray) (c : CalN) : Prop where
  lt : g < w.heap.size
  c0 : w.cell? ⟨g, 0, none⟩ = some (.string s)
  c1 : w.cell? ⟨g, 1, none⟩ = some (.slice ma c.n mc)
  c2 : w.cell? ⟨g, 2, none⟩ = some (.slice ra c.nr rc)
  c3 : w.cell? ⟨g, 3, none⟩ = some (.int .i64 wk)
  mem : CalM w ma ra nm c
theorem CalP.ext {w w' : World} {g : Nat} {s : ByteArray} {ma ra : Option Addr} {mc rc : Nat} {wk : Int} {nm : Nat → ByteArray} {c : CalN} (h : CalP w g s ma ra mc rc wk nm c) (e : Ext w w') : CalP w' g s ma ra mc rc wk nm c :=
  ⟨Nat.lt_of_lt_of_le h.lt e.size, (e.cell h.lt).trans h.c0, (e.cell h.lt).trans h.c1, (e.cell h.lt).trans h.c2, (e.cell h.lt).trans h.c3, h.mem.ext e⟩
end Go.Proofs.YtpohhnihgegmfaaDoor

namespace Go.Proofs.YtpohhnihgegmfaaDoor
open Go.RowKit
set_option linter.unusedVariables false
set_option linter.unusedSimpArgs false

end Go.Proofs.YtpohhnihgegmfaaDoor

namespace Go.Proofs.YtpohhnihgegmfaaDoor
set_option linter.unusedVariables false
/-- the rules are valid -/
def rulB (ev rs : Nat → Int) (n : Nat) : Bool := rulTo ev rs n && decide (cyY ev n ≤ 2000) && decide (n ≤ 6)
theorem rulB_bad {ev rs : Nat → Int} {n k : Nat} (hk : k < n) (hb : (inB (ev k) 1 1000 && inB (rs k) 0 (ev k - 1)) = false) : rulB ev rs n = false := by rw [rulB, rulTo_ff hk hb]; rfl
theorem rulB_many {ev rs : Nat → Int} {n k : Nat} (hk : k ≤ n) (h : 2000 < cyY ev k) : rulB ev rs n = false := by
  have := cyY_stuck h n hk
  simp only [rulB, show decide (cyY ev n ≤ 2000) = false by simpa using this, Bool.and_false, Bool.false_and]
/-- what l15Years returns -/
structure YrR (ev rs : Nat → Int) (n : Nat) (x : Int) (b : Bool) : Prop where
  ok : b = rulB ev rs n
  yr : b = true → x = cyY ev n
end Go.Proofs.YtpohhnihgegmfaaDoor

namespace Go.Proofs.YtpohhnihgegmfaaDoor
open Go.RowKit
set_option linter.unusedVariables false
set_option linter.unusedSimpArgs false

set_option maxHeartbeats 2000000 in
theorem l15Years_c (a : Option Addr) (n c : Nat) (ev rs : Nat → Int) (lf : Nat → Bool) (w : World) (hn : n ≤ 1048576) (hs : R3 w a n ev rs lf) :
    Calls Tryd.prog 62 #[.slice a n c] w fun e w' => ∃ x b, e = .returned (.tuple #[.int .i64 x, .bool b]) ∧ YrR ev rs n x b ∧ Ext w w' := by
  have HS := Lib.hid hs
  clear hs
  go_enter Tryd.func62, Tryd.ntmps62
  go_wp2_with fail
  go_loopw [4, 5] (fun y i wr => ∃ j : Nat, j ≤ n ∧ i = .int .i64 j ∧ y = .int .i64 (cyY ev j) ∧ rulTo ev rs j = true ∧ cyY ev j ≤ 2000 ∧ Ext w wr) (fun _ i _ => n - (intOf i).toNat)
  case atStart => exact ⟨0, by omega, rfl, rfl, rfl, by simp [cyY], (by repeat (first | with_reducible exact Ext.refl _ | with_reducible assumption | with_reducible refine Ext.alloc ?_ _ | with_reducible refine Ext.drew ?_ | (with_reducible refine Ext.setAt ?_ _ _ _ ?_; rotate_left; omega) | with_reducible refine Ext.trans ?_ (by assumption) | with_reducible exact Past.bel _ | with_reducible refine Ext.trans ?_ (Past.bel _)))⟩
  case round =>
    obtain ⟨j, hj, rfl, rfl, hr, h2, hbl⟩ := hrel
    have HR := Lib.hid hr
    clear hr
    by_cases hlt : j < n
    · obtain ⟨b1, o1, rfl, hb1, q1, q2, q3⟩ := (R3.ext HS.out hbl).at hlt
      by_cases t1 : inB (ev j) 1 1000 = true
      · have t1' := inB_t.1 t1
        by_cases t2 : inB (rs j) 0 (ev j - 1) = true
        · have he : ∀ i, i < j + 1 → 1 ≤ ev i ∧ ev i ≤ 1000 := fun i hi => by
            by_cases e : i = j
            · subst e; exact t1'
            · exact (rulTo_at HR.out (show i < j by omega)).1
          obtain ⟨y0, y1, g0, d0, d1, p0, p1⟩ := cyS (ev := ev) (k := j) he
          have st : cyY ev (j + 1) = cyY ev j / gcdI (cyY ev j) (ev j) * ev j := by simp only [cyY]; rw [if_pos h2]
          have hr1 : rulTo ev rs (j + 1) = true := by simp only [rulTo, HR.out, t1, t2]; rfl
          have ST := Lib.hid st
          have HR1 := Lib.hid hr1
          obtain ⟨Y, hY⟩ : ∃ Y, Y = cyY ev j := ⟨_, rfl⟩
          rw [← hY] at y0 y1 g0 d0 d1 p0 p1 h2 ⊢
          obtain ⟨G, hG⟩ : ∃ G, G = gcdI Y (ev j) := ⟨_, rfl⟩
          rw [← hG] at g0 d0 d1 p0 p1
          have w1 := IntWalk.i64_in (Y / G) (by have := d1 h2; omega)
          have w2 := IntWalk.i64_in (Y / G * ev j) (by have := p1 h2; omega)
          have u1 : Y.tdiv G = Y / G := tdiv_nn (by omega)
          have cg : ∀ W, Calls Tryd.prog 81 #[.int .i64 Y, .int .i64 (ev j)] W fun e w' => e = .returned (.int .i64 G) ∧ W = w' := fun W => by
            rw [hG]; exact l02Gcd_c _ _ _ (by omega) (by omega) (by omega) (by omega)
          have CG := Lib.hid cg
          have HY := Lib.hid hY
          have HG := Lib.hid hG
          have hz : Y / G * ev j = cyY ev (j + 1) := by rw [st, ← hY, ← hG]
          have HZ := Lib.hid hz
          clear st cg hY hG hr1 hz he
          by_cases hbig : 2000 < Y / G * ev j
          · go_wp2_with fail
            refine wp_region_past (by kernel_rfl) (by kernel_rfl) ?_
            repeat (go_big_quiet_step ((go_at_call 37; exact Calls.past_same (l00In_c _ _ _ _))))
            refine wpQuiet_nil ?_
            rintro _ ⟨wx, rfl⟩
            go_wp2_with fail
            refine wp_region_past (by kernel_rfl) (by kernel_rfl) ?_
            repeat (go_big_quiet_step ((go_at_call 81; exact Calls.past_same (CG.out _))))
            refine wpQuiet_nil ?_
            rintro _ ⟨wx, rfl⟩
            go_wp2_with fail
            go_ret2
            exact ⟨_, _, rfl, ⟨(rulB_many (k := j + 1) (by omega) (by rw [← HZ.out]; exact hbig)).symm, fun e => by cases e⟩, (by repeat (first | with_reducible exact Ext.refl _ | with_reducible assumption | with_reducible refine Ext.alloc ?_ _ | with_reducible refine Ext.drew ?_ | (with_reducible refine Ext.setAt ?_ _ _ _ ?_; rotate_left; omega) | with_reducible refine Ext.trans ?_ (by assumption) | with_reducible exact Past.bel _ | with_reducible refine Ext.trans ?_ (Past.bel _)))⟩
          · go_wp2_with fail
            refine wp_region_past (by kernel_rfl) (by kernel_rfl) ?_
            repeat (go_big_quiet_step ((go_at_call 37; exact Calls.past_same (l00In_c _ _ _ _))))
            refine wpQuiet_nil ?_
            rintro _ ⟨wx, rfl⟩
            go_wp2_with fail
            refine wp_region_past (by kernel_rfl) (by kernel_rfl) ?_
            repeat (go_big_quiet_step ((go_at_call 81; exact Calls.past_same (CG.out _))))
            refine wpQuiet_nil ?_
            rintro _ ⟨wx, rfl⟩
            go_wp2_with fail
            exact ⟨⟨j + 1, by omega, by go_num, by rw [HZ.out], HR1.out, by rw [← HZ.out]; omega, (by repeat (first | with_reducible exact Ext.refl _ | with_reducible assumption | with_reducible refine Ext.alloc ?_ _ | with_reducible refine Ext.drew ?_ | (with_reducible refine Ext.setAt ?_ _ _ _ ?_; rotate_left; omega) | with_reducible refine Ext.trans ?_ (by assumption) | with_reducible exact Past.bel _ | with_reducible refine Ext.trans ?_ (Past.bel _)))⟩, by simp [intOf]; omega⟩
        · have t3 : inB (rs j) 0 (ev j - 1) = false := by simpa using t2
          clear t2
          go_wp2_with fail
          refine wp_region_past (by kernel_rfl) (by kernel_rfl) ?_
          repeat (go_big_quiet_step ((go_at_call 37; exact Calls.past_same (l00In_c _ _ _ _))))
          refine wpQuiet_nil ?_
          rintro _ ⟨wx, rfl⟩
          go_wp2_with fail
          go_ret2
          exact ⟨_, _, rfl, ⟨(rulB_bad hlt (by simp [t3])).symm, fun e => by cases e⟩, (by repeat (first | with_reducible exact Ext.refl _ | with_reducible assumption | with_reducible refine Ext.alloc ?_ _ | with_reducible refine Ext.drew ?_ | (with_reducible refine Ext.setAt ?_ _ _ _ ?_; rotate_left; omega) | with_reducible refine Ext.trans ?_ (by assumption) | with_reducible exact Past.bel _ | with_reducible refine Ext.trans ?_ (Past.bel _)))⟩
      · have t3 : inB (ev j) 1 1000 = false := by simpa using t1
        clear t1
        go_wp2_with fail
        refine wp_region_past (by kernel_rfl) (by kernel_rfl) ?_
        repeat (go_big_quiet_step ((go_at_call 37; exact Calls.past_same (l00In_c _ _ _ _))))
        refine wpQuiet_nil ?_
        rintro _ ⟨wx, rfl⟩
        go_wp2_with fail
        go_ret2
        exact ⟨_, _, rfl, ⟨(rulB_bad hlt (by simp [t3])).symm, fun e => by cases e⟩, (by repeat (first | with_reducible exact Ext.refl _ | with_reducible assumption | with_reducible refine Ext.alloc ?_ _ | with_reducible refine Ext.drew ?_ | (with_reducible refine Ext.setAt ?_ _ _ _ ?_; rotate_left; omega) | with_reducible refine Ext.trans ?_ (by assumption) | with_reducible exact Past.bel _ | with_reducible refine Ext.trans ?_ (Past.bel _)))⟩
    · obtain rfl : j = n := by omega
      by_cases h6 : j ≤ 6
      · have x6 : (j : Int) ≤ 6 := by omega
        go_wp2_with fail
        go_ret2
        exact ⟨_, _, rfl, ⟨by simp [rulB, HR.out, h2, h6], fun _ => rfl⟩, (by repeat (first | with_reducible exact Ext.refl _ | with_reducible assumption | with_reducible refine Ext.alloc ?_ _ | with_reducible refine Ext.drew ?_ | (with_reducible refine Ext.setAt ?_ _ _ _ ?_; rotate_left; omega) | with_reducible refine Ext.trans ?_ (by assumption) | with_reducible exact Past.bel _ | with_reducible refine Ext.trans ?_ (Past.bel _)))⟩
      · have x6 : ¬ (j : Int) ≤ 6 := by omega
        go_wp2_with fail
        go_ret2
        exact ⟨_, .inl ⟨rfl, ⟨by simp [rulB, h6], fun e => by cases e⟩, (by repeat (first | with_reducible exact Ext.refl _ | with_reducible assumption | with_reducible refine Ext.alloc ?_ _ | with_reducible refine Ext.drew ?_ | (with_reducible refine Ext.setAt ?_ _ _ _ ?_; rotate_left; omega) | with_reducible refine Ext.trans ?_ (by assumption) | with_reducible exact Past.bel _ | with_reducible refine Ext.trans ?_ (Past.bel _)))⟩⟩
end Go.Proofs.YtpohhnihgegmfaaDoor

namespace Go.Proofs.YtpohhnihgegmfaaDoor
set_option linter.unusedVariables false
/-- byte i of a text, as a number -/
def btN (s : ByteArray) (i : Nat) : Nat := (s.data.toList.getD i 0).toNat
/-- byte c may stand at place i of a name -/
def chN (i c : Nat) : Bool := decide ((97 ≤ c ∧ c ≤ 122) ∨ (i ≠ 0 ∧ ((48 ≤ c ∧ c ≤ 57) ∨ c = 45)))
def nmTo (s : ByteArray) : Nat → Bool
  | 0 => true
  | k + 1 => nmTo s k && chN k (btN s k)
theorem nmTo_ff {s : ByteArray} {n k : Nat} (hk : k < n) (h : chN k (btN s k) = false) : nmTo s n = false := by
  induction n with
  | zero => omega
  | succ n ih =>
    by_cases e : k = n
    · subst e; simp only [nmTo, h, Bool.and_false]
    · simp only [nmTo, ih (by omega), Bool.false_and]
/-- a text is a name -/
def isNm (s : ByteArray) : Bool := decide (1 ≤ s.size) && decide (s.size ≤ 12) && nmTo s s.size
theorem isNm_0 {s : ByteArray} (h : s.size < 1) : isNm s = false := by simp [isNm]; omega
theorem isNm_12 {s : ByteArray} (h : 12 < s.size) : isNm s = false := by simp [isNm]; omega
theorem isNm_ff {s : ByteArray} {k : Nat} (hk : k < s.size) (h : chN k (btN s k) = false) : isNm s = false := by simp [isNm, nmTo_ff hk h]
theorem isNm_tt {s : ByteArray} (h1 : 1 ≤ s.size) (h2 : s.size ≤ 12) (h : nmTo s s.size = true) : isNm s = true := by simp [isNm, h, h1, h2]
def chS (c : Nat) : Bool := decide (97 ≤ c ∧ c ≤ 122)
def chD (c : Nat) : Bool := decide (48 ≤ c ∧ c ≤ 57)
theorem btN_at {s : ByteArray} {j : Nat} (h : j < s.size) : s[j].toNat = btN s j := by
  have h' : j < s.data.size := h
  unfold btN
  rw [List.getD_eq_getElem?_getD, List.getElem?_eq_getElem (by simpa using h)]
  rfl
theorem chN_S {i c : Nat} (h : chS c = true) : chN i c = true := by simp [chS] at h; simp [chN]; omega
theorem chN_D {i c : Nat} (hi : i ≠ 0) (h : chD c = true) : chN i c = true := by simp [chD] at h; simp [chN]; omega
theorem chN_m {i c : Nat} (hi : i ≠ 0) (h : c = 45) : chN i c = true := by simp [chN]; omega
theorem chN_0 {c : Nat} (h : chS c = false) : chN 0 c = false := by simp [chS] at h; simp [chN]; omega
theorem chN_f {i c : Nat} (h : chS c = false) (h2 : chD c = false) (h3 : c ≠ 45) : chN i c = false := by simp [chS] at h; simp [chD] at h2; simp [chN]; omega
end Go.Proofs.YtpohhnihgegmfaaDoor

namespace Go.Proofs.YtpohhnihgegmfaaDoor
open Go.RowKit
set_option linter.unusedVariables false
set_option linter.unusedSimpArgs false

open Go.Lib in
theorem ext_bytes (w : World) (e : TypeId) (s : ByteArray) : Ext w (Lib.bytesWorld w e s) :=
  below_freeze ((Below.drew (Below.refl _ w)).alloc (Nat.le_refl _) _) (p := ⟨w.heap.size, _, none⟩) (Nat.le_refl _) 1
set_option maxHeartbeats 2000000 in
theorem implIsName_c (s : ByteArray) (w : World) (hz : s.size ≤ 9223372036854775807) :
    Calls Tryd.prog 42 #[.string s] w fun e w' => e = .returned (.bool (isNm s)) ∧ Ext w w' := by
  have hz' : (s.size : Int) ≤ 9223372036854775807 := by omega
  by_cases z1 : s.size < 1
  · have y1 : (s.size : Int) < 1 := by omega
    go_enter Tryd.func42, Tryd.ntmps42
    go_wp2_with fail
    go_ret
    exact ⟨ret_bool (isNm_0 z1).symm, (by repeat (first | with_reducible exact Ext.refl _ | with_reducible assumption | with_reducible refine Ext.alloc ?_ _ | with_reducible refine Ext.drew ?_ | (with_reducible refine Ext.setAt ?_ _ _ _ ?_; rotate_left; omega) | with_reducible refine Ext.trans ?_ (by assumption) | with_reducible exact Past.bel _ | with_reducible refine Ext.trans ?_ (Past.bel _)))⟩
  · have y1 : ¬ (s.size : Int) < 1 := by omega
    by_cases z2 : 12 < s.size
    · have y2 : (12 : Int) < s.size := by omega
      go_enter Tryd.func42, Tryd.ntmps42
      go_wp2_with fail
      go_ret
      exact ⟨ret_bool (isNm_12 z2).symm, (by repeat (first | with_reducible exact Ext.refl _ | with_reducible assumption | with_reducible refine Ext.alloc ?_ _ | with_reducible refine Ext.drew ?_ | (with_reducible refine Ext.setAt ?_ _ _ _ ?_; rotate_left; omega) | with_reducible refine Ext.trans ?_ (by assumption) | with_reducible exact Past.bel _ | with_reducible refine Ext.trans ?_ (Past.bel _)))⟩
    · have y2 : ¬ (12 : Int) < s.size := by omega
      have hcv := Lib.run_convert_string_bytes (P := Tryd.prog) w 9 75 5 s (u := .string) Tryd.underlying9 Tryd.underlying75 Tryd.underlying5
      have hbw : Ext w (Lib.bytesWorld w 5 s) := ext_bytes w 5 s
      have hcl : ∀ j, j < s.size → (Lib.bytesWorld w 5 s).cell? ⟨w.heap.size, j, none⟩ = some (.int .u8 (btN s j : Nat)) := fun j hj => Lib.bytesWorld_cell w 5 s j hj
      obtain ⟨W1, hW⟩ : ∃ W1, W1 = Lib.bytesWorld w 5 s := ⟨_, rfl⟩
      rw [← hW] at hcv hbw hcl
      have HC := Lib.hid hcl
      clear hcl hW
      go_enter Tryd.func42, Tryd.ntmps42
      go_wp2_with fail
      clear hcv
      go_loop [18] (fun i => ∃ j : Nat, j ≤ s.size ∧ i = .int .i64 j ∧ nmTo s j = true) (fun i => s.size - (intOf i).toNat)
      case atStart => exact ⟨0, by omega, rfl, rfl⟩
      case round =>
        obtain ⟨j, hj, rfl, hr⟩ := hrel
        have HR := Lib.hid hr
        clear hr
        by_cases hlt : j < s.size
        · have q1 := HC.out j hlt
          obtain ⟨C, hC⟩ : ∃ C, C = btN s j := ⟨_, rfl⟩
          rw [← hC] at q1
          have HB := Lib.hid hC
          clear hC
          go_wp2_with fail
          all_goals first
            | (go_ret; exact ⟨ret_bool (isNm_ff hlt (by rw [← HB.out]; clear HC q1 hbw HB HR; grind [chN])).symm, (by repeat (first | with_reducible exact Ext.refl _ | with_reducible assumption | with_reducible refine Ext.alloc ?_ _ | with_reducible refine Ext.drew ?_ | (with_reducible refine Ext.setAt ?_ _ _ _ ?_; rotate_left; omega) | with_reducible refine Ext.trans ?_ (by assumption) | with_reducible exact Past.bel _ | with_reducible refine Ext.trans ?_ (Past.bel _)))⟩)
            | (refine ⟨⟨j + 1, by omega, by go_num, ?_⟩, by simp [intOf]; omega⟩; have h2 : chN j C = true := (by clear HC q1 hbw HB HR; grind [chN]); rw [HB.out] at h2; simp only [nmTo, HR.out, h2]; rfl)
        · obtain rfl : j = s.size := by omega
          go_wp2_with fail
          go_ret
          exact ⟨ret_bool (isNm_tt (by omega) (by omega) HR.out).symm, (by repeat (first | with_reducible exact Ext.refl _ | with_reducible assumption | with_reducible refine Ext.alloc ?_ _ | with_reducible refine Ext.drew ?_ | (with_reducible refine Ext.setAt ?_ _ _ _ ?_; rotate_left; omega) | with_reducible refine Ext.trans ?_ (by assumption) | with_reducible exact Past.bel _ | with_reducible refine Ext.trans ?_ (Past.bel _)))⟩
end Go.Proofs.YtpohhnihgegmfaaDoor

namespace Go.Proofs.YtpohhnihgegmfaaDoor
open Go.RowKit
set_option linter.unusedVariables false
set_option linter.unusedSimpArgs false

theorem l01Small_c (c : Nat) (w : World) : Calls Tryd.prog 82 #[.int .u8 (c : Nat)] w fun e w' => e = .returned (.bool (chS c)) ∧ w = w' := by
  go_enter Tryd.func82, Tryd.ntmps82
  go_wp2
  all_goals (go_ret; refine ⟨ret_bool ?_, rfl⟩; rw [Bool.eq_iff_iff]; simp [chS]; try omega)
theorem l01Digit_c (c : Nat) (w : World) : Calls Tryd.prog 52 #[.int .u8 (c : Nat)] w fun e w' => e = .returned (.bool (chD c)) ∧ w = w' := by
  go_enter Tryd.func52, Tryd.ntmps52
  go_wp2
  all_goals (go_ret; refine ⟨ret_bool ?_, rfl⟩; rw [Bool.eq_iff_iff]; simp [chD]; try omega)
set_option maxHeartbeats 2000000 in
theorem specIsName_c (s : ByteArray) (w : World) (hz : s.size ≤ 9223372036854775807) :
    Calls Tryd.prog 63 #[.string s] w fun e w' => e = .returned (.bool (isNm s)) ∧ w = w' := by
  have hz' : (s.size : Int) ≤ 9223372036854775807 := by omega
  by_cases z1 : s.size < 1
  · obtain rfl : s = ⟨#[]⟩ := by
      obtain ⟨⟨l⟩⟩ := s
      cases l with
      | nil => rfl
      | cons x l => simp [ByteArray.size] at z1
    go_enter Tryd.func63, Tryd.ntmps63
    go_wp2_with fail
    go_ret
    exact ⟨ret_bool (isNm_0 z1).symm, rfl⟩
  · have y0 : ¬ s.toList = [] := fun e => by have e2 := (toList_nil_iff_emptyBytes s).1 e; subst e2; exact z1 (by decide)
    have y1 : s.toList.isEmpty = false := by simpa using y0
    by_cases z2 : 12 < s.size
    · have y2 : (12 : Int) < s.size := by omega
      go_enter Tryd.func63, Tryd.ntmps63
      go_wp2_with fail
      go_ret
      exact ⟨ret_bool (isNm_12 z2).symm, rfl⟩
    · have y2 : ¬ (12 : Int) < s.size := by omega
      have y3 : (0 : Int) < s.size := by omega
      have y4 : 0 < s.size := by omega
      cases hs : chS s[0].toNat
      · have HS := Lib.hid hs
        clear hs
        go_enter Tryd.func63, Tryd.ntmps63
        go_wp2_with (go_at_call 82; ((with_reducible refine (l01Small_c _ _).mono ?_); rintro e w' ⟨rfl, rfl⟩; rw [HS.out]))
        go_ret
        exact ⟨ret_bool (isNm_ff y4 (chN_0 (by rw [← btN_at y4]; exact HS.out))).symm, rfl⟩
      · have HS := Lib.hid hs
        clear hs
        go_enter Tryd.func63, Tryd.ntmps63
        go_wp2_with (go_at_call 82; ((with_reducible refine (l01Small_c _ _).mono ?_); rintro e w' ⟨rfl, rfl⟩; rw [HS.out]))
        go_loop [3] (fun i => ∃ j : Nat, j ≤ s.size ∧ i = .int .i64 j ∧ nmTo s j = true) (fun i => s.size - (intOf i).toNat)
        case atStart => exact ⟨0, by omega, rfl, rfl⟩
        case round =>
          obtain ⟨j, hj, rfl, hr⟩ := hrel
          have HR := Lib.hid hr
          clear hr
          by_cases hlt : j < s.size
          · have HB := Lib.hid (btN_at hlt)
            by_cases h0 : j = 0
            · subst h0
              go_wp2_with (go_at_call 82; ((with_reducible refine (l01Small_c _ _).mono ?_); rintro e w' ⟨rfl, rfl⟩; rw [HS.out]))
              exact ⟨⟨1, by omega, rfl, by simp only [nmTo, HR.out]; rw [← HB.out, chN_S HS.out]; rfl⟩, by simp [intOf]; omega⟩
            · have N0 := Lib.hid h0
              clear h0
              cases a1 : chS s[j].toNat
              · cases a2 : chD s[j].toNat
                · by_cases a3 : s[j].toNat = 45
                  · have b3 : ((s[j].toNat : Int) != 45) = false := by simp; omega
                    have A1 := Lib.hid a1; have A2 := Lib.hid a2; have A3 := Lib.hid a3
                    clear a1 a2 a3
                    go_wp2_with (first | (go_at_call 82; ((with_reducible refine (l01Small_c _ _).mono ?_); rintro e w' ⟨rfl, rfl⟩; rw [A1.out])) | (go_at_call 52; ((with_reducible refine (l01Digit_c _ _).mono ?_); rintro e w' ⟨rfl, rfl⟩; rw [A2.out])))
                    exact ⟨⟨j + 1, by omega, by go_num, by simp only [nmTo, HR.out]; rw [← HB.out, chN_m N0.out A3.out]; rfl⟩, by simp [intOf]; omega⟩
                  · have b3 : ((s[j].toNat : Int) != 45) = true := by simp; omega
                    have A1 := Lib.hid a1; have A2 := Lib.hid a2; have A3 := Lib.hid a3
                    clear a1 a2 a3
                    go_wp2_with (first | (go_at_call 82; ((with_reducible refine (l01Small_c _ _).mono ?_); rintro e w' ⟨rfl, rfl⟩; rw [A1.out])) | (go_at_call 52; ((with_reducible refine (l01Digit_c _ _).mono ?_); rintro e w' ⟨rfl, rfl⟩; rw [A2.out])))
                    go_ret
                    exact ⟨ret_bool (isNm_ff hlt (by rw [← HB.out]; exact chN_f A1.out A2.out A3.out)).symm, rfl⟩
                · have A1 := Lib.hid a1; have A2 := Lib.hid a2
                  clear a1 a2
                  go_wp2_with (first | (go_at_call 82; ((with_reducible refine (l01Small_c _ _).mono ?_); rintro e w' ⟨rfl, rfl⟩; rw [A1.out])) | (go_at_call 52; ((with_reducible refine (l01Digit_c _ _).mono ?_); rintro e w' ⟨rfl, rfl⟩; rw [A2.out])))
                  exact ⟨⟨j + 1, by omega, by go_num, by simp only [nmTo, HR.out]; rw [← HB.out, chN_D N0.out A2.out]; rfl⟩, by simp [intOf]; omega⟩
              · have A1 := Lib.hid a1
                clear a1
                go_wp2_with (first | (go_at_call 82; ((with_reducible refine (l01Small_c _ _).mono ?_); rintro e w' ⟨rfl, rfl⟩; rw [A1.out])))
                exact ⟨⟨j + 1, by omega, by go_num, by simp only [nmTo, HR.out]; rw [← HB.out, chN_S A1.out]; rfl⟩, by simp [intOf]; omega⟩
          · obtain rfl : j = s.size := by omega
            go_wp2_with fail
            go_ret
            exact ⟨ret_bool (isNm_tt (by omega) (by omega) HR.out).symm, rfl⟩
end Go.Proofs.YtpohhnihgegmfaaDoor
