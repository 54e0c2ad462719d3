/- Contracts of Go's library at this translation, laid by the kit's own tool in plain words; the ones that are used here. -/
import Derived.Shelf.Strings.Builder1
import Derived.Shelf.Strings.Builder2
import Derived.Shelf.Strings.OnBuilder
import Derived.Shelf.Strconv.Atoi
import Derived.Shelf.Strconv.Itoa0
import Derived.Shelf.Strconv.Itoa1
import Derived.Shelf.LaysM
import Derived.Shelf.Strconv.Itoa2
import Derived.Shelf.Strconv.Itoa3
import Derived.Shelf.Strconv.AtoiErrFast
import Derived.Shelf.Strconv.ParseIntEmpty
import Derived.Shelf.Strconv.AtoiFail
import Derived.Shelf.Strconv.Clone
import Derived.Shelf.Strconv.SyntaxError
import Derived.Shelf.LaysC
import Derived.Shelf.Strconv.ToError
import Derived.Shelf.Strconv.Lower
import Derived.Shelf.Strconv.ParseUint10
import Derived.Shelf.Strconv.ParseUint10Empty
import Derived.Shelf.Strconv.ParseUint10Any
import Derived.Shelf.Strconv.ParseInt10
import Derived.Shelf.Strconv.AtoiLong
import Derived.Shelf.Strconv.AtoiInnerAll
import Derived.Shelf.Strconv.RangeError
import Derived.Shelf.Strconv.ToErrorRange
import Derived.Shelf.Strconv.AtoiAll
import Derived.Shelf.Strconv.ErrVarAll
import Derived.Shelf.Strings.Search1
import Derived.Shelf.Strings.Search2
import Derived.Shelf.Strings.Search3
import Derived.Shelf.Strings.Count
import Derived.Shelf.Strings.Shaped
import Derived.Shelf.Strings.Split
import Derived.Shelf.Strings.Fields
import Derived.Shelf.Strings.SplitShaped
import Derived.Shelf.Unicode.Latin
import Derived.Shelf.Unicode.DecodeSlow
import Derived.Shelf.Unicode.Is16White
import Derived.Shelf.Unicode.IsSpaceAny
import Derived.Shelf.Unicode.Is16Any
import Derived.Shelf.Unicode.Is32Any
import Derived.Shelf.Unicode.ExclAny
import Derived.Shelf.Slices.Turned
import Derived.Shelf.Slices.Equal
import Derived.Shelf.Slices.Empties2
import Derived.Ground.PaProg
import Derived.Shelf.Hex.Lens
import Derived.Shelf.Hex.Encode
import Derived.Shelf.Hex.Decode
import Derived.Shelf.Hex.DecodeOwns
import Derived.Shelf.Hex.More
import Derived.Test.YtggfonljcbmjmaaDoorProg
namespace Go.Proofs
open Go.Shelf
def Tryd.laysM171_ren : Go.Shelf.Ren := ⟨fun | 171 => 90 | 243 => 128 | 246 => 166 | 283 => 197 | 284 => 198 | 285 => 199 | 286 => 200 | 129 => 226 | 317 => 225 | 318 => 227 | 319 => 228 | 320 => 229 | 337 => 236 | 338 => 237 | n => n, fun | 3 => 3 | 9 => 9 | 2 => 2 | 4 => 4 | 171 => 267 | 0 => 0 | 53 => 268 | 37 => 59 | 5 => 5 | 173 => 271 | 212 => 303 | 51 => 231 | 20 => 20 | 213 => 304 | 46 => 196 | 232 => 320 | 233 => 321 | n => n, fun | 17 => 6 | 18 => 9 | 19 => 10 | n => n⟩
theorem Tryd.laysM171 : Go.Proofs.LaysM.n171 Tryd.prog Tryd.laysM171_ren := {
  mixed := by kernel_rfl
  f129 := Tryd.func226.trans (congrArg some (by kernel_rfl))
  f171 := Tryd.func90.trans (congrArg some (by kernel_rfl))
  f243 := Tryd.func128.trans (congrArg some (by kernel_rfl))
  f246 := Tryd.func166.trans (congrArg some (by kernel_rfl))
  f283 := Tryd.func197.trans (congrArg some (by kernel_rfl))
  f284 := Tryd.func198.trans (congrArg some (by kernel_rfl))
  f285 := Tryd.func199.trans (congrArg some (by kernel_rfl))
  f286 := Tryd.func200.trans (congrArg some (by kernel_rfl))
  f317 := Tryd.func225.trans (congrArg some (by kernel_rfl))
  f318 := Tryd.func227.trans (congrArg some (by kernel_rfl))
  f319 := Tryd.func228.trans (congrArg some (by kernel_rfl))
  f320 := Tryd.func229.trans (congrArg some (by kernel_rfl))
  f337 := Tryd.func236.trans (congrArg some (by kernel_rfl))
  f338 := Tryd.func237.trans (congrArg some (by kernel_rfl))
  t0 := Tryd.underlying0
  a0 := Tryd.isAgg0
  z0 := Tryd.sizeOf0
  v0 := Tryd.zeroValue0
  t2 := Tryd.underlying2
  a2 := Tryd.isAgg2
  z2 := Tryd.sizeOf2
  v2 := Tryd.zeroValue2
  t3 := Tryd.underlying3
  a3 := Tryd.isAgg3
  z3 := Tryd.sizeOf3
  v3 := Tryd.zeroValue3
  t4 := Tryd.underlying4
  a4 := Tryd.isAgg4
  z4 := Tryd.sizeOf4
  v4 := Tryd.zeroValue4
  t5 := Tryd.underlying5
  a5 := Tryd.isAgg5
  z5 := Tryd.sizeOf5
  v5 := Tryd.zeroValue5
  t9 := Tryd.underlying9
  a9 := Tryd.isAgg9
  z9 := Tryd.sizeOf9
  v9 := Tryd.zeroValue9
  t20 := Tryd.underlying20
  a20 := Tryd.isAgg20
  z20 := Tryd.sizeOf20
  v20 := Tryd.zeroValue20
  t37 := Tryd.underlying59
  a37 := Tryd.isAgg59
  z37 := Tryd.sizeOf59
  v37 := Tryd.zeroValue59
  t46 := Tryd.underlying196
  a46 := Tryd.isAgg196
  z46 := Tryd.sizeOf196
  v46 := Tryd.zeroValue196
  t51 := Tryd.underlying231
  a51 := Tryd.isAgg231
  z51 := Tryd.sizeOf231
  v51 := Tryd.zeroValue231
  t53 := Tryd.underlying268
  a53 := Tryd.isAgg268
  z53 := Tryd.sizeOf268
  v53 := Tryd.zeroValue268
  t171 := Tryd.underlying267
  a171 := Tryd.isAgg267
  z171 := Tryd.sizeOf267
  v171 := Tryd.zeroValue267
  t173 := Tryd.underlying271
  a173 := Tryd.isAgg271
  z173 := Tryd.sizeOf271
  v173 := Tryd.zeroValue271
  t212 := Tryd.underlying303
  a212 := Tryd.isAgg303
  z212 := Tryd.sizeOf303
  v212 := Tryd.zeroValue303
  t213 := Tryd.underlying304
  a213 := Tryd.isAgg304
  z213 := Tryd.sizeOf304
  t232 := Tryd.underlying320
  a232 := Tryd.isAgg320
  z232 := Tryd.sizeOf320
  v232 := Tryd.zeroValue320
  t233 := Tryd.underlying321
  a233 := Tryd.isAgg321
  z233 := Tryd.sizeOf321
  v233 := Tryd.zeroValue321
  g17 := by kernel_rfl
  g18 := by kernel_rfl
  g19 := by kernel_rfl
  i0 := by kernel_rfl
  i2 := by kernel_rfl
  i3 := by kernel_rfl
  i4 := by kernel_rfl
  i5 := by kernel_rfl
  i9 := by kernel_rfl
  i20 := by kernel_rfl
  i37 := by kernel_rfl
  i46 := by kernel_rfl
  i51 := by kernel_rfl
  i53 := by kernel_rfl
  i171 := by kernel_rfl
  i173 := by kernel_rfl
  i212 := by kernel_rfl
  i232 := by kernel_rfl
  i233 := by kernel_rfl
  m17 := by kernel_rfl
  m18 := by kernel_rfl
  m19 := by kernel_rfl }
open Go.RowKit Go.Sort Go.Lib in
/-- strconv.Itoa: "Itoa is equivalent to FormatInt(int64(i), 10).": i's DECIMAL NUMERAL ('Lib.itoa': a '-' where i is negative, then the digits), FOR EVERY int. The world behind the call: the world before it, new blocks behind the heap (the library's 'var a [24]byte'), draws. (LAID: no walk: one application.) -/
theorem Tryd.strconv_Itoa (n : Int) (h0 : -9223372036854775808 ≤ n) (h1 : n ≤ 9223372036854775807) (w : World) (htab : Lib.TabIs Tryd.prog w "internal/strconv.uint64pow10" .u64 Lib.pow10Tab) :
    Calls Tryd.prog 90 #[.int .i64 n] w fun e w' => e = .returned (.string ⟨(Lib.itoa n).toArray⟩) ∧ ∃ k os, w' = grow (w.drewN k) os := Any.strconv_Itoa Tryd.laysM171 n h0 h1 w htab
def Tryd.laysC172_ren : Go.Shelf.Ren := ⟨fun | 172 => 99 | 244 => 133 | 245 => 134 | 247 => 170 | 279 => 171 | 280 => 172 | 281 => 173 | 282 => 174 | 287 => 203 | 316 => 204 | 171 => 90 | 205 => 205 | 321 => 230 | 322 => 231 | 243 => 128 | 246 => 166 | 283 => 197 | 284 => 198 | 285 => 199 | 286 => 200 | 129 => 226 | 317 => 225 | 318 => 227 | 319 => 228 | 320 => 229 | 337 => 236 | 338 => 237 | n => n, fun | 9 => 9 | 3 => 3 | 75 => 138 | 76 => 139 | 4 => 4 | 5 => 5 | 167 => 234 | 37 => 59 | 0 => 0 | 85 => 235 | 2 => 2 | 168 => 237 | 53 => 268 | 175 => 284 | 46 => 196 | 210 => 287 | 127 => 180 | 145 => 312 | 143 => 310 | 21 => 21 | 171 => 267 | 173 => 271 | 212 => 303 | 51 => 231 | 20 => 20 | 213 => 304 | 232 => 320 | 233 => 321 | 80 => 141 | n => n, fun | 15 => 4 | 16 => 5 | 17 => 6 | 18 => 9 | 19 => 10 | n => n⟩
theorem Tryd.laysC172 : Go.Proofs.LaysC.n172 Tryd.prog Tryd.laysC172_ren := {
  mixed := by kernel_rfl
  f129 := Tryd.func226.trans (congrArg some (by kernel_rfl))
  f171 := Tryd.func90.trans (congrArg some (by kernel_rfl))
  f172 := Tryd.func99.trans (congrArg some (by kernel_rfl))
  f205 := Tryd.func205.trans (congrArg some (by kernel_rfl))
  f243 := Tryd.func128.trans (congrArg some (by kernel_rfl))
  f244 := Tryd.func133.trans (congrArg some (by kernel_rfl))
  f245 := Tryd.func134.trans (congrArg some (by kernel_rfl))
  f246 := Tryd.func166.trans (congrArg some (by kernel_rfl))
  f247 := Tryd.func170.trans (congrArg some (by kernel_rfl))
  f279 := Tryd.func171.trans (congrArg some (by kernel_rfl))
  f280 := Tryd.func172.trans (congrArg some (by kernel_rfl))
  f281 := Tryd.func173.trans (congrArg some (by kernel_rfl))
  f282 := Tryd.func174.trans (congrArg some (by kernel_rfl))
  f283 := Tryd.func197.trans (congrArg some (by kernel_rfl))
  f284 := Tryd.func198.trans (congrArg some (by kernel_rfl))
  f285 := Tryd.func199.trans (congrArg some (by kernel_rfl))
  f286 := Tryd.func200.trans (congrArg some (by kernel_rfl))
  f287 := Tryd.func203.trans (congrArg some (by kernel_rfl))
  f316 := Tryd.func204.trans (congrArg some (by kernel_rfl))
  f317 := Tryd.func225.trans (congrArg some (by kernel_rfl))
  f318 := Tryd.func227.trans (congrArg some (by kernel_rfl))
  f319 := Tryd.func228.trans (congrArg some (by kernel_rfl))
  f320 := Tryd.func229.trans (congrArg some (by kernel_rfl))
  f321 := Tryd.func230.trans (congrArg some (by kernel_rfl))
  f322 := Tryd.func231.trans (congrArg some (by kernel_rfl))
  f337 := Tryd.func236.trans (congrArg some (by kernel_rfl))
  f338 := Tryd.func237.trans (congrArg some (by kernel_rfl))
  t0 := Tryd.underlying0
  a0 := Tryd.isAgg0
  z0 := Tryd.sizeOf0
  v0 := Tryd.zeroValue0
  t2 := Tryd.underlying2
  a2 := Tryd.isAgg2
  z2 := Tryd.sizeOf2
  v2 := Tryd.zeroValue2
  t3 := Tryd.underlying3
  a3 := Tryd.isAgg3
  z3 := Tryd.sizeOf3
  v3 := Tryd.zeroValue3
  t4 := Tryd.underlying4
  a4 := Tryd.isAgg4
  z4 := Tryd.sizeOf4
  v4 := Tryd.zeroValue4
  t5 := Tryd.underlying5
  a5 := Tryd.isAgg5
  z5 := Tryd.sizeOf5
  v5 := Tryd.zeroValue5
  t9 := Tryd.underlying9
  a9 := Tryd.isAgg9
  z9 := Tryd.sizeOf9
  v9 := Tryd.zeroValue9
  t20 := Tryd.underlying20
  a20 := Tryd.isAgg20
  z20 := Tryd.sizeOf20
  v20 := Tryd.zeroValue20
  t21 := Tryd.underlying21
  a21 := Tryd.isAgg21
  z21 := Tryd.sizeOf21
  v21 := Tryd.zeroValue21
  t37 := Tryd.underlying59
  a37 := Tryd.isAgg59
  z37 := Tryd.sizeOf59
  v37 := Tryd.zeroValue59
  t46 := Tryd.underlying196
  a46 := Tryd.isAgg196
  z46 := Tryd.sizeOf196
  v46 := Tryd.zeroValue196
  t51 := Tryd.underlying231
  a51 := Tryd.isAgg231
  z51 := Tryd.sizeOf231
  v51 := Tryd.zeroValue231
  t53 := Tryd.underlying268
  a53 := Tryd.isAgg268
  z53 := Tryd.sizeOf268
  v53 := Tryd.zeroValue268
  t75 := Tryd.underlying138
  a75 := Tryd.isAgg138
  z75 := Tryd.sizeOf138
  v75 := Tryd.zeroValue138
  t76 := Tryd.underlying139
  a76 := Tryd.isAgg139
  z76 := Tryd.sizeOf139
  v76 := Tryd.zeroValue139
  t85 := Tryd.underlying235
  a85 := Tryd.isAgg235
  z85 := Tryd.sizeOf235
  v85 := Tryd.zeroValue235
  t127 := Tryd.underlying180
  a127 := Tryd.isAgg180
  z127 := Tryd.sizeOf180
  v127 := Tryd.zeroValue180
  t143 := Tryd.underlying310
  a143 := Tryd.isAgg310
  z143 := Tryd.sizeOf310
  v143 := Tryd.zeroValue310
  t145 := Tryd.underlying312
  a145 := Tryd.isAgg312
  z145 := Tryd.sizeOf312
  v145 := Tryd.zeroValue312
  t167 := Tryd.underlying234
  a167 := Tryd.isAgg234
  z167 := Tryd.sizeOf234
  v167 := Tryd.zeroValue234
  t168 := Tryd.underlying237
  a168 := Tryd.isAgg237
  z168 := Tryd.sizeOf237
  v168 := Tryd.zeroValue237
  t171 := Tryd.underlying267
  a171 := Tryd.isAgg267
  z171 := Tryd.sizeOf267
  v171 := Tryd.zeroValue267
  t173 := Tryd.underlying271
  a173 := Tryd.isAgg271
  z173 := Tryd.sizeOf271
  v173 := Tryd.zeroValue271
  t175 := Tryd.underlying284
  a175 := Tryd.isAgg284
  z175 := Tryd.sizeOf284
  v175 := Tryd.zeroValue284
  t210 := Tryd.underlying287
  a210 := Tryd.isAgg287
  z210 := Tryd.sizeOf287
  v210 := Tryd.zeroValue287
  t212 := Tryd.underlying303
  a212 := Tryd.isAgg303
  z212 := Tryd.sizeOf303
  v212 := Tryd.zeroValue303
  t213 := Tryd.underlying304
  a213 := Tryd.isAgg304
  z213 := Tryd.sizeOf304
  t232 := Tryd.underlying320
  a232 := Tryd.isAgg320
  z232 := Tryd.sizeOf320
  v232 := Tryd.zeroValue320
  t233 := Tryd.underlying321
  a233 := Tryd.isAgg321
  z233 := Tryd.sizeOf321
  v233 := Tryd.zeroValue321
  g15 := by kernel_rfl
  g16 := by kernel_rfl
  g17 := by kernel_rfl
  g18 := by kernel_rfl
  g19 := by kernel_rfl
  t80 := Tryd.underlying141
  a80 := Tryd.isAgg141
  z80 := Tryd.sizeOf141
  v80 := Tryd.zeroValue141
  i0 := by kernel_rfl
  i2 := by kernel_rfl
  i3 := by kernel_rfl
  i4 := by kernel_rfl
  i5 := by kernel_rfl
  i9 := by kernel_rfl
  i20 := by kernel_rfl
  i21 := by kernel_rfl
  i37 := by kernel_rfl
  i46 := by kernel_rfl
  i51 := by kernel_rfl
  i53 := by kernel_rfl
  i75 := by kernel_rfl
  i76 := by kernel_rfl
  i80 := by kernel_rfl
  i85 := by kernel_rfl
  i127 := by kernel_rfl
  i143 := by kernel_rfl
  i145 := by kernel_rfl
  i167 := by kernel_rfl
  i168 := by kernel_rfl
  i171 := by kernel_rfl
  i173 := by kernel_rfl
  i175 := by kernel_rfl
  i210 := by kernel_rfl
  i212 := by kernel_rfl
  i232 := by kernel_rfl
  i233 := by kernel_rfl
  m15 := by kernel_rfl
  m16 := by kernel_rfl
  m17 := by kernel_rfl
  m18 := by kernel_rfl
  m19 := by kernel_rfl
  c0 := by kernel_rfl
  c2 := by kernel_rfl
  c3 := by kernel_rfl
  c4 := by kernel_rfl
  c5 := by kernel_rfl
  c9 := by kernel_rfl
  c20 := by kernel_rfl
  c21 := by kernel_rfl
  c37 := by kernel_rfl
  c46 := by kernel_rfl
  c51 := by kernel_rfl
  c53 := by kernel_rfl
  c75 := by kernel_rfl
  c76 := by kernel_rfl
  c80 := by kernel_rfl
  c85 := by kernel_rfl
  c127 := by kernel_rfl
  c143 := by kernel_rfl
  c145 := by kernel_rfl
  c167 := by kernel_rfl
  c168 := by kernel_rfl
  c171 := by kernel_rfl
  c173 := by kernel_rfl
  c175 := by kernel_rfl
  c210 := by kernel_rfl
  c212 := by kernel_rfl
  c213 := by kernel_rfl
  c232 := by kernel_rfl
  c233 := by kernel_rfl }
open Go.RowKit in
/-- strconv.Atoi, AT EVERY STRING THAT SPELLS AN int ('Lib.atoiAll .. = .ok v'; of whatever length: leading zeros count): v, AND NO ERROR. The world: as it was, or with the one new row that '[]byte(..)' lays. (LAID: no walk: one application.) -/
theorem Tryd.strconv_Atoi_ok (s : ByteArray) (hmax : s.size ≤ 9223372036854775806) (v : Int) (h : Lib.atoiAll s.data.toList = .ok v) (w : World) :
    Calls Tryd.prog 99 #[.string s] w fun e w' => e = .returned (.tuple #[.int .i64 v, .nilIface]) ∧ (w' = w ∨ ∃ t, w' = Lib.bytesWorld w 5 t) := Any.strconv_Atoi_ok Tryd.laysC172 s hmax v h w
open Go.RowKit in
/-- strconv.Atoi, AT EVERY NUMERAL THAT NO int HOLDS ('.range'): THE GREATEST OR THE LEAST int, BY THE SIGN ('Lib.atoiSat'), AND AN ERROR THAT IS NOT nil: a *NumError in a new block N: {Func: "Atoi", Num: s's bytes, Err: what the variable ErrRange holds}. Of what was there nothing has turned. (LAID: no walk: one application.) -/
theorem Tryd.strconv_Atoi_range (s : ByteArray) (hlim : s.size ≤ 281474976710656) (h : Lib.atoiAll s.data.toList = .range) (ev : Value) (w : World) (hv : w.cell? ⟨5, 0, none⟩ = some ev) (hev : ev = .nilIface ∨ ∃ te pe, ev = .iface te pe) :
    Calls Tryd.prog 99 #[.string s] w fun e w' => ∃ N, e = .returned (.tuple #[.int .i64 (Lib.atoiSat s.data.toList), .iface 237 (.pointer (some ⟨N, 0, none⟩))]) ∧ w.heap.size ≤ N ∧ w'.heap[N]? = some (.cells #[.string ⟨#[65, 116, 111, 105]⟩, .string s, ev] 287 (0, 0)) ∧ Below w.heap.size w w' := Any.strconv_Atoi_range Tryd.laysC172 s hlim h ev w hv hev
def Tryd.lays146_ren : Go.Shelf.Ren := ⟨fun | 146 => 75 | 221 => 104 | 268 => 139 | 138 => 140 | 143 => 141 | 195 => 175 | 197 => 176 | 218 => 177 | 219 => 178 | 260 => 206 | 217 => 207 | 225 => 208 | 224 => 209 | 267 => 210 | 266 => 232 | 314 => 233 | n => n, fun | 9 => 9 | 31 => 37 | 3 => 3 | 4 => 4 | 0 => 0 | 105 => 242 | 21 => 21 | 5 => 5 | 46 => 196 | 119 => 181 | 139 => 315 | 138 => 314 | 146 => 316 | 51 => 231 | n => n, fun | 1 => 3 | 3 => 7 | 4 => 8 | n => n⟩
theorem Tryd.lays146 : Go.Proofs.Lays.n146 Tryd.prog Tryd.lays146_ren := {
  mixed := by kernel_rfl
  f138 := Tryd.func140.trans (congrArg some (by kernel_rfl))
  f143 := Tryd.func141.trans (congrArg some (by kernel_rfl))
  f146 := Tryd.func75.trans (congrArg some (by kernel_rfl))
  f195 := Tryd.func175.trans (congrArg some (by kernel_rfl))
  f197 := Tryd.func176.trans (congrArg some (by kernel_rfl))
  f217 := Tryd.func207.trans (congrArg some (by kernel_rfl))
  f218 := Tryd.func177.trans (congrArg some (by kernel_rfl))
  f219 := Tryd.func178.trans (congrArg some (by kernel_rfl))
  f221 := Tryd.func104.trans (congrArg some (by kernel_rfl))
  f224 := Tryd.func209.trans (congrArg some (by kernel_rfl))
  f225 := Tryd.func208.trans (congrArg some (by kernel_rfl))
  f260 := Tryd.func206.trans (congrArg some (by kernel_rfl))
  f266 := Tryd.func232.trans (congrArg some (by kernel_rfl))
  f267 := Tryd.func210.trans (congrArg some (by kernel_rfl))
  f268 := Tryd.func139.trans (congrArg some (by kernel_rfl))
  f314 := Tryd.func233.trans (congrArg some (by kernel_rfl))
  t0 := Tryd.underlying0
  a0 := Tryd.isAgg0
  z0 := Tryd.sizeOf0
  v0 := Tryd.zeroValue0
  t3 := Tryd.underlying3
  a3 := Tryd.isAgg3
  z3 := Tryd.sizeOf3
  v3 := Tryd.zeroValue3
  t4 := Tryd.underlying4
  a4 := Tryd.isAgg4
  z4 := Tryd.sizeOf4
  v4 := Tryd.zeroValue4
  t5 := Tryd.underlying5
  a5 := Tryd.isAgg5
  z5 := Tryd.sizeOf5
  v5 := Tryd.zeroValue5
  t9 := Tryd.underlying9
  a9 := Tryd.isAgg9
  z9 := Tryd.sizeOf9
  v9 := Tryd.zeroValue9
  t21 := Tryd.underlying21
  a21 := Tryd.isAgg21
  z21 := Tryd.sizeOf21
  v21 := Tryd.zeroValue21
  t31 := Tryd.underlying37
  a31 := Tryd.isAgg37
  z31 := Tryd.sizeOf37
  v31 := Tryd.zeroValue37
  t46 := Tryd.underlying196
  a46 := Tryd.isAgg196
  z46 := Tryd.sizeOf196
  v46 := Tryd.zeroValue196
  t51 := Tryd.underlying231
  a51 := Tryd.isAgg231
  z51 := Tryd.sizeOf231
  v51 := Tryd.zeroValue231
  t105 := Tryd.underlying242
  a105 := Tryd.isAgg242
  z105 := Tryd.sizeOf242
  v105 := Tryd.zeroValue242
  t119 := Tryd.underlying181
  a119 := Tryd.isAgg181
  z119 := Tryd.sizeOf181
  t138 := Tryd.underlying314
  a138 := Tryd.isAgg314
  z138 := Tryd.sizeOf314
  v138 := Tryd.zeroValue314
  t139 := Tryd.underlying315
  a139 := Tryd.isAgg315
  z139 := Tryd.sizeOf315
  v139 := Tryd.zeroValue315
  t146 := Tryd.underlying316
  a146 := Tryd.isAgg316
  z146 := Tryd.sizeOf316
  v146 := Tryd.zeroValue316
  g1 := by kernel_rfl
  g3 := by kernel_rfl
  g4 := by kernel_rfl }
open Go.RowKit Go.Lib in
/-- strings.Split. (LAID: no walk: one application.) -/
theorem Tryd.strings_Split (s sep : ByteArray) (m : Int) (w : World) (hs : s.size < 4294967281) (hm : w.cell? ⟨3, 0, none⟩ = some (.int .i64 m)) (h1 : 1 ≤ sep.size) :
    Calls Tryd.prog 75 #[.string s, .string sep] w fun e w' =>
      e = .returned (.slice (some ⟨w.heap.size, 0, none⟩) (Lib.countB s sep + 1) (Lib.countB s sep + 1)) ∧ w' = w.alloc (.cells ((Lib.splitB sep 0 (Lib.countB s sep) s).map Value.string).toArray 9) := Any.strings_Split Tryd.lays146 (by kernel_rfl) s sep m w hs hm h1
def Tryd.laysM157_ren : Go.Shelf.Ren := ⟨fun | 157 => 98 | 229 => 131 | 199 => 132 | 261 => 169 | 311 => 201 | 312 => 202 | n => n, fun | 9 => 9 | 31 => 37 | 3 => 3 | 5 => 5 | 4 => 4 | 119 => 181 | 0 => 0 | 40 => 183 | 152 => 228 | 21 => 21 | 154 => 230 | 51 => 231 | 141 => 233 | 196 => 276 | 193 => 273 | 198 => 279 | 49 => 277 | 194 => 274 | 201 => 282 | 226 => 307 | 46 => 196 | 227 => 308 | n => n, fun | 0 => 0 | 6 => 1 | n => n⟩
theorem Tryd.laysM157 : Go.Proofs.LaysM.n157 Tryd.prog Tryd.laysM157_ren := {
  mixed := by kernel_rfl
  f157 := Tryd.func98.trans (congrArg some (by kernel_rfl))
  f199 := Tryd.func132.trans (congrArg some (by kernel_rfl))
  f229 := Tryd.func131.trans (congrArg some (by kernel_rfl))
  f261 := Tryd.func169.trans (congrArg some (by kernel_rfl))
  f311 := Tryd.func201.trans (congrArg some (by kernel_rfl))
  f312 := Tryd.func202.trans (congrArg some (by kernel_rfl))
  t0 := Tryd.underlying0
  a0 := Tryd.isAgg0
  z0 := Tryd.sizeOf0
  v0 := Tryd.zeroValue0
  t3 := Tryd.underlying3
  a3 := Tryd.isAgg3
  z3 := Tryd.sizeOf3
  v3 := Tryd.zeroValue3
  t4 := Tryd.underlying4
  a4 := Tryd.isAgg4
  z4 := Tryd.sizeOf4
  v4 := Tryd.zeroValue4
  t5 := Tryd.underlying5
  a5 := Tryd.isAgg5
  z5 := Tryd.sizeOf5
  v5 := Tryd.zeroValue5
  t9 := Tryd.underlying9
  a9 := Tryd.isAgg9
  z9 := Tryd.sizeOf9
  v9 := Tryd.zeroValue9
  t21 := Tryd.underlying21
  a21 := Tryd.isAgg21
  z21 := Tryd.sizeOf21
  v21 := Tryd.zeroValue21
  t31 := Tryd.underlying37
  a31 := Tryd.isAgg37
  z31 := Tryd.sizeOf37
  v31 := Tryd.zeroValue37
  t40 := Tryd.underlying183
  a40 := Tryd.isAgg183
  z40 := Tryd.sizeOf183
  v40 := Tryd.zeroValue183
  t46 := Tryd.underlying196
  a46 := Tryd.isAgg196
  z46 := Tryd.sizeOf196
  v46 := Tryd.zeroValue196
  t49 := Tryd.underlying277
  a49 := Tryd.isAgg277
  z49 := Tryd.sizeOf277
  v49 := Tryd.zeroValue277
  t51 := Tryd.underlying231
  a51 := Tryd.isAgg231
  z51 := Tryd.sizeOf231
  v51 := Tryd.zeroValue231
  t119 := Tryd.underlying181
  a119 := Tryd.isAgg181
  z119 := Tryd.sizeOf181
  t141 := Tryd.underlying233
  a141 := Tryd.isAgg233
  z141 := Tryd.sizeOf233
  v141 := Tryd.zeroValue233
  t152 := Tryd.underlying228
  a152 := Tryd.isAgg228
  z152 := Tryd.sizeOf228
  v152 := Tryd.zeroValue228
  t154 := Tryd.underlying230
  a154 := Tryd.isAgg230
  z154 := Tryd.sizeOf230
  v154 := Tryd.zeroValue230
  t193 := Tryd.underlying273
  a193 := Tryd.isAgg273
  z193 := Tryd.sizeOf273
  v193 := Tryd.zeroValue273
  t194 := Tryd.underlying274
  a194 := Tryd.isAgg274
  z194 := Tryd.sizeOf274
  v194 := Tryd.zeroValue274
  t196 := Tryd.underlying276
  a196 := Tryd.isAgg276
  z196 := Tryd.sizeOf276
  v196 := Tryd.zeroValue276
  t198 := Tryd.underlying279
  a198 := Tryd.isAgg279
  z198 := Tryd.sizeOf279
  v198 := Tryd.zeroValue279
  t201 := Tryd.underlying282
  a201 := Tryd.isAgg282
  z201 := Tryd.sizeOf282
  v201 := Tryd.zeroValue282
  t226 := Tryd.underlying307
  a226 := Tryd.isAgg307
  z226 := Tryd.sizeOf307
  v226 := Tryd.zeroValue307
  t227 := Tryd.underlying308
  a227 := Tryd.isAgg308
  z227 := Tryd.sizeOf308
  v227 := Tryd.zeroValue308
  g0 := by kernel_rfl
  g6 := by kernel_rfl
  i0 := by kernel_rfl
  i3 := by kernel_rfl
  i4 := by kernel_rfl
  i5 := by kernel_rfl
  i9 := by kernel_rfl
  i21 := by kernel_rfl
  i31 := by kernel_rfl
  i40 := by kernel_rfl
  i46 := by kernel_rfl
  i49 := by kernel_rfl
  i51 := by kernel_rfl
  i141 := by kernel_rfl
  i152 := by kernel_rfl
  i154 := by kernel_rfl
  i193 := by kernel_rfl
  i194 := by kernel_rfl
  i196 := by kernel_rfl
  i198 := by kernel_rfl
  i201 := by kernel_rfl
  i226 := by kernel_rfl
  i227 := by kernel_rfl
  m0 := by kernel_rfl
  m6 := by kernel_rfl }
open Go.RowKit Go.Lib in
/-- strings.Fields on ASCII bytes. (The table: 'Lib.TabIs', as strings.TrimSpace's contract asks it.) (LAID: no walk: one application.) -/
theorem Tryd.strings_Fields_laid (s : ByteArray) (w : World) (hs : s.size < 4294967281) (hascii : ∀ (j : Nat) b, s.data.toList[j]? = some b → b.toNat < 128) (htab : Lib.TabIs Tryd.prog w "strings.asciiSpace" .u8 Lib.asciiSpaceTab) :
    Calls Tryd.prog 98 #[.string s] w fun e w' =>
      e = .returned (.slice (some ⟨w.heap.size, 0, none⟩) (Lib.fields s.data.toList).length (Lib.fields s.data.toList).length) ∧ w' = w.alloc (.cells ((Lib.fields s.data.toList).map fun l => Value.string ⟨l.toArray⟩).toArray 9) := Any.strings_Fields_laid Tryd.laysM157 s w hs hascii htab
def Tryd.lays193_ren : Go.Shelf.Ren := ⟨fun | 193 => 74 | n => n, fun | 31 => 37 | 9 => 9 | 4 => 4 | 3 => 3 | 0 => 0 | n => n, fun | n => n⟩
theorem Tryd.lays193 : Go.Proofs.Lays.n193 Tryd.prog Tryd.lays193_ren := {
  mixed := by kernel_rfl
  f193 := Tryd.func74.trans (congrArg some (by kernel_rfl))
  t0 := Tryd.underlying0
  a0 := Tryd.isAgg0
  z0 := Tryd.sizeOf0
  v0 := Tryd.zeroValue0
  t3 := Tryd.underlying3
  a3 := Tryd.isAgg3
  z3 := Tryd.sizeOf3
  v3 := Tryd.zeroValue3
  t4 := Tryd.underlying4
  a4 := Tryd.isAgg4
  z4 := Tryd.sizeOf4
  v4 := Tryd.zeroValue4
  t9 := Tryd.underlying9
  a9 := Tryd.isAgg9
  z9 := Tryd.sizeOf9
  v9 := Tryd.zeroValue9
  t31 := Tryd.underlying37
  a31 := Tryd.isAgg37
  z31 := Tryd.sizeOf37
  v31 := Tryd.zeroValue37 }
open Go.RowKit Go.Lib in
/-- slices.Equal at []string: "Equal reports whether two slices are equal: the same length and all elements equal. If the lengths are different, Equal returns false. Otherwise, the elements are compared in increasing index order, and the comparison stops at the first unequal pair. Empty and nil slices are considered equal.": IT RETURNS WHETHER THE TWO LISTS OF ELEMENTS ARE ONE; the world is as it was but for the count of draws (the test 's1[i] != s2[i]' has two reads, whose order the model draws, once a round). 'xs', 'ys': what the cells behind the two addresses hold (the spare capacity too, if you have it); 'xs.take n', 'ys.take m': the elements. THE TWO SLICES MAY OVERLAP. (LAID: no walk: one application.) -/
theorem Tryd.slices_Equal_string (b1 o1 n c b2 o2 m d : Nat) (xs ys : List ByteArray) (w : World) (hx : n ≤ xs.length) (hy : m ≤ ys.length) (hbig : n ≤ 9223372036854775807) (hbig2 : m ≤ 9223372036854775807) (hc1 : ∀ j, j < xs.length → w.cell? ⟨b1, o1 + j, none⟩ = some (.string (xs.getD j ByteArray.empty))) (hc2 : ∀ j, j < ys.length → w.cell? ⟨b2, o2 + j, none⟩ = some (.string (ys.getD j ByteArray.empty))) :
    Calls Tryd.prog 74 #[.slice (some ⟨b1, o1, none⟩) n c, .slice (some ⟨b2, o2, none⟩) m d] w fun e w' => e = .returned (.bool (decide (xs.take n = ys.take m))) ∧ ∃ q, w' = w.drewN q := Any.slices_Equal_string Tryd.lays193 b1 o1 n c b2 o2 m d xs ys w hx hy hbig hbig2 hc1 hc2
open Go.RowKit Go.Lib in
/-- The same where the first is of length 0 (a nil one too): no cell is asked for. (LAID: no walk: one application.) -/
theorem Tryd.slices_Equal_string_empty (a1 a2 : Option Addr) (c m d : Nat) (w : World) (hbig2 : m ≤ 9223372036854775807) :
    Calls Tryd.prog 74 #[.slice a1 0 c, .slice a2 m d] w fun e w' => e = .returned (.bool (decide (m = 0))) ∧ w' = w := Any.slices_Equal_string_empty Tryd.lays193 a1 a2 c m d w hbig2
end Go.Proofs
