/- Facts on the seat's types, for walks by rewriting. -/
import Derived.Test.YtldhhppfnhgcdaaProg
import Derived.Test.YtldhhppfnhgcdaaV28
import Derived.KernelRfl
namespace Go.Proofs.Ytldhhppfnhgcdaa
open Go Go.VL
theorem mixed : Try.prog.follows .mixedOrders = true := by kernel_rfl
@[go_sem] theorem tab0 : tSize Try.prog 2 = some 1 := by kernel_rfl
@[go_sem] theorem tab1 : tAgg Try.prog 2 = some false := by kernel_rfl
@[go_sem] theorem tab2 : tZero Try.prog 2 = some [.t (.int .i64 0)] := by kernel_rfl
@[go_sem] theorem tab3 : tBytes Try.prog 2 = some 8 := by kernel_rfl
@[go_sem] theorem tab4 : (Program.underlying Try.prog 2).isSome = true := by kernel_rfl
@[go_sem] theorem tab5 : tStr Try.prog 2 = false := by kernel_rfl
@[go_sem] theorem tab6 : tElem Try.prog 2 = none := by kernel_rfl
@[go_sem] theorem tab7 : tInt Try.prog 2 = some .i64 := by kernel_rfl
@[go_sem] theorem tab8 : tSize Try.prog 3 = some 1 := by kernel_rfl
@[go_sem] theorem tab9 : tAgg Try.prog 3 = some false := by kernel_rfl
@[go_sem] theorem tab10 : tZero Try.prog 3 = some [.t (.int .i64 0)] := by kernel_rfl
@[go_sem] theorem tab11 : tBytes Try.prog 3 = some 8 := by kernel_rfl
@[go_sem] theorem tab12 : (Program.underlying Try.prog 3).isSome = true := by kernel_rfl
@[go_sem] theorem tab13 : tStr Try.prog 3 = false := by kernel_rfl
@[go_sem] theorem tab14 : tElem Try.prog 3 = none := by kernel_rfl
@[go_sem] theorem tab15 : tInt Try.prog 3 = some .i64 := by kernel_rfl
@[go_sem] theorem tab16 : tSize Try.prog 4 = some 1 := by kernel_rfl
@[go_sem] theorem tab17 : tAgg Try.prog 4 = some false := by kernel_rfl
@[go_sem] theorem tab18 : tZero Try.prog 4 = some [.t (.bool false)] := by kernel_rfl
@[go_sem] theorem tab19 : tBytes Try.prog 4 = some 1 := by kernel_rfl
@[go_sem] theorem tab20 : (Program.underlying Try.prog 4).isSome = true := by kernel_rfl
@[go_sem] theorem tab21 : tStr Try.prog 4 = false := by kernel_rfl
@[go_sem] theorem tab22 : tBool Try.prog 4 = true := by kernel_rfl
@[go_sem] theorem tab23 : tSize Try.prog 5 = some 1 := by kernel_rfl
@[go_sem] theorem tab24 : tAgg Try.prog 5 = some false := by kernel_rfl
@[go_sem] theorem tab25 : tZero Try.prog 5 = some [.t (.int .u8 0)] := by kernel_rfl
@[go_sem] theorem tab26 : tBytes Try.prog 5 = some 1 := by kernel_rfl
@[go_sem] theorem tab27 : (Program.underlying Try.prog 5).isSome = true := by kernel_rfl
@[go_sem] theorem tab28 : tStr Try.prog 5 = false := by kernel_rfl
@[go_sem] theorem tab29 : tElem Try.prog 5 = none := by kernel_rfl
@[go_sem] theorem tab30 : tInt Try.prog 5 = some .u8 := by kernel_rfl
@[go_sem] theorem tab31 : tSize Try.prog 6 = some 1 := by kernel_rfl
@[go_sem] theorem tab32 : tAgg Try.prog 6 = some false := by kernel_rfl
@[go_sem] theorem tab33 : tZero Try.prog 6 = some [.t (.int .u8 0)] := by kernel_rfl
@[go_sem] theorem tab34 : tBytes Try.prog 6 = some 1 := by kernel_rfl
@[go_sem] theorem tab35 : (Program.underlying Try.prog 6).isSome = true := by kernel_rfl
@[go_sem] theorem tab36 : tStr Try.prog 6 = false := by kernel_rfl
@[go_sem] theorem tab37 : tElem Try.prog 6 = none := by kernel_rfl
@[go_sem] theorem tab38 : tInt Try.prog 6 = some .u8 := by kernel_rfl
@[go_sem] theorem tab39 : tSize Try.prog 7 = some 4 := by kernel_rfl
@[go_sem] theorem tab40 : tAgg Try.prog 7 = some true := by kernel_rfl
@[go_sem] theorem tab41 : tZero Try.prog 7 = some [.t (.int .i64 0), .t (.int .i64 0), .t (.bool false), .t (.int .u8 0)] := by kernel_rfl
@[go_sem] theorem tab42 : tBytes Try.prog 7 = some 24 := by kernel_rfl
@[go_sem] theorem tab43 : (Program.underlying Try.prog 7).isSome = true := by kernel_rfl
@[go_sem] theorem tab44 : tStr Try.prog 7 = false := by kernel_rfl
@[go_sem] theorem tab45 : tField Try.prog 7 0 = some (0, 2) := by kernel_rfl
@[go_sem] theorem tab46 : tField Try.prog 7 1 = some (1, 3) := by kernel_rfl
@[go_sem] theorem tab47 : tField Try.prog 7 2 = some (2, 4) := by kernel_rfl
@[go_sem] theorem tab48 : tField Try.prog 7 3 = some (3, 6) := by kernel_rfl
@[go_sem] theorem tab49 : tFields Try.prog 7 = true := by kernel_rfl
@[go_sem] theorem tab50 : tSize Try.prog 8 = some 4 := by kernel_rfl
@[go_sem] theorem tab51 : tAgg Try.prog 8 = some true := by kernel_rfl
@[go_sem] theorem tab52 : tZero Try.prog 8 = some [.t (.int .i64 0), .t (.int .i64 0), .t (.bool false), .t (.int .u8 0)] := by kernel_rfl
@[go_sem] theorem tab53 : tBytes Try.prog 8 = some 24 := by kernel_rfl
@[go_sem] theorem tab54 : (Program.underlying Try.prog 8).isSome = true := by kernel_rfl
@[go_sem] theorem tab55 : tStr Try.prog 8 = false := by kernel_rfl
@[go_sem] theorem tab56 : tField Try.prog 8 0 = some (0, 2) := by kernel_rfl
@[go_sem] theorem tab57 : tField Try.prog 8 1 = some (1, 3) := by kernel_rfl
@[go_sem] theorem tab58 : tField Try.prog 8 2 = some (2, 4) := by kernel_rfl
@[go_sem] theorem tab59 : tField Try.prog 8 3 = some (3, 6) := by kernel_rfl
@[go_sem] theorem tab60 : tFields Try.prog 8 = true := by kernel_rfl
@[go_sem] theorem tab61 : tSize Try.prog 9 = some 1 := by kernel_rfl
@[go_sem] theorem tab62 : tAgg Try.prog 9 = some false := by kernel_rfl
@[go_sem] theorem tab63 : tZero Try.prog 9 = some [.t (.str ⟨#[]⟩)] := by kernel_rfl
@[go_sem] theorem tab64 : tBytes Try.prog 9 = some 16 := by kernel_rfl
@[go_sem] theorem tab65 : (Program.underlying Try.prog 9).isSome = true := by kernel_rfl
@[go_sem] theorem tab66 : tStr Try.prog 9 = true := by kernel_rfl
@[go_sem] theorem tab67 : tElem Try.prog 9 = none := by kernel_rfl
@[go_sem] theorem tab68 : tSize Try.prog 10 = some 1 := by kernel_rfl
@[go_sem] theorem tab69 : tAgg Try.prog 10 = some false := by kernel_rfl
@[go_sem] theorem tab70 : tZero Try.prog 10 = some [.t (.str ⟨#[]⟩)] := by kernel_rfl
@[go_sem] theorem tab71 : tBytes Try.prog 10 = some 16 := by kernel_rfl
@[go_sem] theorem tab72 : (Program.underlying Try.prog 10).isSome = true := by kernel_rfl
@[go_sem] theorem tab73 : tStr Try.prog 10 = true := by kernel_rfl
@[go_sem] theorem tab74 : tElem Try.prog 10 = none := by kernel_rfl
@[go_sem] theorem tab75 : tSize Try.prog 11 = some 1 := by kernel_rfl
@[go_sem] theorem tab76 : tAgg Try.prog 11 = some false := by kernel_rfl
@[go_sem] theorem tab77 : tZero Try.prog 11 = some [.t (.str ⟨#[]⟩)] := by kernel_rfl
@[go_sem] theorem tab78 : tBytes Try.prog 11 = some 16 := by kernel_rfl
@[go_sem] theorem tab79 : (Program.underlying Try.prog 11).isSome = true := by kernel_rfl
@[go_sem] theorem tab80 : tStr Try.prog 11 = true := by kernel_rfl
@[go_sem] theorem tab81 : tElem Try.prog 11 = none := by kernel_rfl
@[go_sem] theorem tab82 : tSize Try.prog 12 = some 1 := by kernel_rfl
@[go_sem] theorem tab83 : tAgg Try.prog 12 = some false := by kernel_rfl
@[go_sem] theorem tab84 : tZero Try.prog 12 = some [.t (.int .u64 0)] := by kernel_rfl
@[go_sem] theorem tab85 : tBytes Try.prog 12 = some 8 := by kernel_rfl
@[go_sem] theorem tab86 : (Program.underlying Try.prog 12).isSome = true := by kernel_rfl
@[go_sem] theorem tab87 : tStr Try.prog 12 = false := by kernel_rfl
@[go_sem] theorem tab88 : tElem Try.prog 12 = none := by kernel_rfl
@[go_sem] theorem tab89 : tInt Try.prog 12 = some .u64 := by kernel_rfl
@[go_sem] theorem tab90 : tSize Try.prog 13 = some 2 := by kernel_rfl
@[go_sem] theorem tab91 : tAgg Try.prog 13 = some true := by kernel_rfl
@[go_sem] theorem tab92 : tZero Try.prog 13 = some [.t (.str ⟨#[]⟩), .t (.int .u64 0)] := by kernel_rfl
@[go_sem] theorem tab93 : tBytes Try.prog 13 = some 24 := by kernel_rfl
@[go_sem] theorem tab94 : (Program.underlying Try.prog 13).isSome = true := by kernel_rfl
@[go_sem] theorem tab95 : tStr Try.prog 13 = false := by kernel_rfl
@[go_sem] theorem tab96 : tField Try.prog 13 0 = some (0, 9) := by kernel_rfl
@[go_sem] theorem tab97 : tField Try.prog 13 1 = some (1, 12) := by kernel_rfl
@[go_sem] theorem tab98 : tFields Try.prog 13 = true := by kernel_rfl
@[go_sem] theorem tab99 : tSize Try.prog 14 = some 2 := by kernel_rfl
@[go_sem] theorem tab100 : tAgg Try.prog 14 = some true := by kernel_rfl
@[go_sem] theorem tab101 : tZero Try.prog 14 = some [.t (.str ⟨#[]⟩), .t (.int .u64 0)] := by kernel_rfl
@[go_sem] theorem tab102 : tBytes Try.prog 14 = some 24 := by kernel_rfl
@[go_sem] theorem tab103 : (Program.underlying Try.prog 14).isSome = true := by kernel_rfl
@[go_sem] theorem tab104 : tStr Try.prog 14 = false := by kernel_rfl
@[go_sem] theorem tab105 : tField Try.prog 14 0 = some (0, 9) := by kernel_rfl
@[go_sem] theorem tab106 : tField Try.prog 14 1 = some (1, 12) := by kernel_rfl
@[go_sem] theorem tab107 : tFields Try.prog 14 = true := by kernel_rfl
@[go_sem] theorem tab108 : tSize Try.prog 20 = some 1 := by kernel_rfl
@[go_sem] theorem tab109 : tAgg Try.prog 20 = some false := by kernel_rfl
@[go_sem] theorem tab110 : tBytes Try.prog 20 = some 16 := by kernel_rfl
@[go_sem] theorem tab111 : (Program.underlying Try.prog 20).isSome = true := by kernel_rfl
@[go_sem] theorem tab112 : tStr Try.prog 20 = false := by kernel_rfl
@[go_sem] theorem tab113 : tIface Try.prog 20 = true := by kernel_rfl
@[go_sem] theorem tab114 : tSize Try.prog 21 = some 1 := by kernel_rfl
@[go_sem] theorem tab115 : tAgg Try.prog 21 = some false := by kernel_rfl
@[go_sem] theorem tab116 : tZero Try.prog 21 = some [.t (.int .i32 0)] := by kernel_rfl
@[go_sem] theorem tab117 : tBytes Try.prog 21 = some 4 := by kernel_rfl
@[go_sem] theorem tab118 : (Program.underlying Try.prog 21).isSome = true := by kernel_rfl
@[go_sem] theorem tab119 : tStr Try.prog 21 = false := by kernel_rfl
@[go_sem] theorem tab120 : tElem Try.prog 21 = none := by kernel_rfl
@[go_sem] theorem tab121 : tInt Try.prog 21 = some .i32 := by kernel_rfl
@[go_sem] theorem tab122 : tSize Try.prog 22 = some 1 := by kernel_rfl
@[go_sem] theorem tab123 : tAgg Try.prog 22 = some false := by kernel_rfl
@[go_sem] theorem tab124 : tZero Try.prog 22 = some [.nil0] := by kernel_rfl
@[go_sem] theorem tab125 : tBytes Try.prog 22 = some 24 := by kernel_rfl
@[go_sem] theorem tab126 : (Program.underlying Try.prog 22).isSome = true := by kernel_rfl
@[go_sem] theorem tab127 : tElem Try.prog 22 = some 94 := by kernel_rfl
@[go_sem] theorem tab128 : tStr Try.prog 22 = false := by kernel_rfl
@[go_sem] theorem tab129 : tSize Try.prog 23 = some 1 := by kernel_rfl
@[go_sem] theorem tab130 : tAgg Try.prog 23 = some true := by kernel_rfl
@[go_sem] theorem tab131 : tZero Try.prog 23 = some [.nil0] := by kernel_rfl
@[go_sem] theorem tab132 : tBytes Try.prog 23 = some 24 := by kernel_rfl
@[go_sem] theorem tab133 : (Program.underlying Try.prog 23).isSome = true := by kernel_rfl
@[go_sem] theorem tab134 : tStr Try.prog 23 = false := by kernel_rfl
@[go_sem] theorem tab135 : tField Try.prog 23 0 = some (0, 22) := by kernel_rfl
@[go_sem] theorem tab136 : tFields Try.prog 23 = true := by kernel_rfl
@[go_sem] theorem tab137 : tSize Try.prog 24 = some 1 := by kernel_rfl
@[go_sem] theorem tab138 : tAgg Try.prog 24 = some true := by kernel_rfl
@[go_sem] theorem tab139 : tZero Try.prog 24 = some [.nil0] := by kernel_rfl
@[go_sem] theorem tab140 : tBytes Try.prog 24 = some 24 := by kernel_rfl
@[go_sem] theorem tab141 : (Program.underlying Try.prog 24).isSome = true := by kernel_rfl
@[go_sem] theorem tab142 : tStr Try.prog 24 = false := by kernel_rfl
@[go_sem] theorem tab143 : tField Try.prog 24 0 = some (0, 22) := by kernel_rfl
@[go_sem] theorem tab144 : tFields Try.prog 24 = true := by kernel_rfl
@[go_sem] theorem tab145 : tSize Try.prog 27 = some 1 := by kernel_rfl
@[go_sem] theorem tab146 : tAgg Try.prog 27 = some false := by kernel_rfl
@[go_sem] theorem tab147 : tZero Try.prog 27 = some [.nil0] := by kernel_rfl
@[go_sem] theorem tab148 : tBytes Try.prog 27 = some 24 := by kernel_rfl
@[go_sem] theorem tab149 : (Program.underlying Try.prog 27).isSome = true := by kernel_rfl
@[go_sem] theorem tab150 : tElem Try.prog 27 = some 59 := by kernel_rfl
@[go_sem] theorem tab151 : tStr Try.prog 27 = false := by kernel_rfl
@[go_sem] theorem tab152 : tSize Try.prog 28 = some 1 := by kernel_rfl
@[go_sem] theorem tab153 : tAgg Try.prog 28 = some true := by kernel_rfl
@[go_sem] theorem tab154 : tZero Try.prog 28 = some [.nil0] := by kernel_rfl
@[go_sem] theorem tab155 : tBytes Try.prog 28 = some 24 := by kernel_rfl
@[go_sem] theorem tab156 : (Program.underlying Try.prog 28).isSome = true := by kernel_rfl
@[go_sem] theorem tab157 : tStr Try.prog 28 = false := by kernel_rfl
@[go_sem] theorem tab158 : tField Try.prog 28 0 = some (0, 27) := by kernel_rfl
@[go_sem] theorem tab159 : tFields Try.prog 28 = true := by kernel_rfl
@[go_sem] theorem tab160 : tSize Try.prog 29 = some 1 := by kernel_rfl
@[go_sem] theorem tab161 : tAgg Try.prog 29 = some true := by kernel_rfl
@[go_sem] theorem tab162 : tZero Try.prog 29 = some [.nil0] := by kernel_rfl
@[go_sem] theorem tab163 : tBytes Try.prog 29 = some 24 := by kernel_rfl
@[go_sem] theorem tab164 : (Program.underlying Try.prog 29).isSome = true := by kernel_rfl
@[go_sem] theorem tab165 : tStr Try.prog 29 = false := by kernel_rfl
@[go_sem] theorem tab166 : tField Try.prog 29 0 = some (0, 27) := by kernel_rfl
@[go_sem] theorem tab167 : tFields Try.prog 29 = true := by kernel_rfl
@[go_sem] theorem tab168 : tSize Try.prog 33 = some 1 := by kernel_rfl
@[go_sem] theorem tab169 : tAgg Try.prog 33 = some false := by kernel_rfl
@[go_sem] theorem tab170 : tZero Try.prog 33 = some [.nil0] := by kernel_rfl
@[go_sem] theorem tab171 : tBytes Try.prog 33 = some 24 := by kernel_rfl
@[go_sem] theorem tab172 : (Program.underlying Try.prog 33).isSome = true := by kernel_rfl
@[go_sem] theorem tab173 : tElem Try.prog 33 = some 35 := by kernel_rfl
@[go_sem] theorem tab174 : tStr Try.prog 33 = false := by kernel_rfl
@[go_sem] theorem tab175 : tSize Try.prog 34 = some 3 := by kernel_rfl
@[go_sem] theorem tab176 : tAgg Try.prog 34 = some true := by kernel_rfl
@[go_sem] theorem tab177 : tZero Try.prog 34 = some [.t (.int .i64 0), .t (.str ⟨#[]⟩), .nil0] := by kernel_rfl
@[go_sem] theorem tab178 : tBytes Try.prog 34 = some 48 := by kernel_rfl
@[go_sem] theorem tab179 : (Program.underlying Try.prog 34).isSome = true := by kernel_rfl
@[go_sem] theorem tab180 : tStr Try.prog 34 = false := by kernel_rfl
@[go_sem] theorem tab181 : tField Try.prog 34 0 = some (0, 3) := by kernel_rfl
@[go_sem] theorem tab182 : tField Try.prog 34 1 = some (1, 9) := by kernel_rfl
@[go_sem] theorem tab183 : tField Try.prog 34 2 = some (2, 33) := by kernel_rfl
@[go_sem] theorem tab184 : tFields Try.prog 34 = true := by kernel_rfl
@[go_sem] theorem tab185 : tSize Try.prog 35 = some 3 := by kernel_rfl
@[go_sem] theorem tab186 : tAgg Try.prog 35 = some true := by kernel_rfl
@[go_sem] theorem tab187 : tZero Try.prog 35 = some [.t (.int .i64 0), .t (.str ⟨#[]⟩), .nil0] := by kernel_rfl
@[go_sem] theorem tab188 : tBytes Try.prog 35 = some 48 := by kernel_rfl
@[go_sem] theorem tab189 : (Program.underlying Try.prog 35).isSome = true := by kernel_rfl
@[go_sem] theorem tab190 : tStr Try.prog 35 = false := by kernel_rfl
@[go_sem] theorem tab191 : tField Try.prog 35 0 = some (0, 3) := by kernel_rfl
@[go_sem] theorem tab192 : tField Try.prog 35 1 = some (1, 9) := by kernel_rfl
@[go_sem] theorem tab193 : tField Try.prog 35 2 = some (2, 33) := by kernel_rfl
@[go_sem] theorem tab194 : tFields Try.prog 35 = true := by kernel_rfl
@[go_sem] theorem tab195 : tSize Try.prog 38 = some 1 := by kernel_rfl
@[go_sem] theorem tab196 : tAgg Try.prog 38 = some false := by kernel_rfl
@[go_sem] theorem tab197 : tZero Try.prog 38 = some [.nil0] := by kernel_rfl
@[go_sem] theorem tab198 : tBytes Try.prog 38 = some 24 := by kernel_rfl
@[go_sem] theorem tab199 : (Program.underlying Try.prog 38).isSome = true := by kernel_rfl
@[go_sem] theorem tab200 : tElem Try.prog 38 = some 40 := by kernel_rfl
@[go_sem] theorem tab201 : tStr Try.prog 38 = false := by kernel_rfl
@[go_sem] theorem tab202 : tSize Try.prog 39 = some 3 := by kernel_rfl
@[go_sem] theorem tab203 : tAgg Try.prog 39 = some true := by kernel_rfl
@[go_sem] theorem tab204 : tZero Try.prog 39 = some [.t (.int .i64 0), .t (.str ⟨#[]⟩), .nil0] := by kernel_rfl
@[go_sem] theorem tab205 : tBytes Try.prog 39 = some 48 := by kernel_rfl
@[go_sem] theorem tab206 : (Program.underlying Try.prog 39).isSome = true := by kernel_rfl
@[go_sem] theorem tab207 : tStr Try.prog 39 = false := by kernel_rfl
@[go_sem] theorem tab208 : tField Try.prog 39 0 = some (0, 3) := by kernel_rfl
@[go_sem] theorem tab209 : tField Try.prog 39 1 = some (1, 9) := by kernel_rfl
@[go_sem] theorem tab210 : tField Try.prog 39 2 = some (2, 38) := by kernel_rfl
@[go_sem] theorem tab211 : tFields Try.prog 39 = true := by kernel_rfl
@[go_sem] theorem tab212 : tSize Try.prog 40 = some 3 := by kernel_rfl
@[go_sem] theorem tab213 : tAgg Try.prog 40 = some true := by kernel_rfl
@[go_sem] theorem tab214 : tZero Try.prog 40 = some [.t (.int .i64 0), .t (.str ⟨#[]⟩), .nil0] := by kernel_rfl
@[go_sem] theorem tab215 : tBytes Try.prog 40 = some 48 := by kernel_rfl
@[go_sem] theorem tab216 : (Program.underlying Try.prog 40).isSome = true := by kernel_rfl
@[go_sem] theorem tab217 : tStr Try.prog 40 = false := by kernel_rfl
@[go_sem] theorem tab218 : tField Try.prog 40 0 = some (0, 3) := by kernel_rfl
@[go_sem] theorem tab219 : tField Try.prog 40 1 = some (1, 9) := by kernel_rfl
@[go_sem] theorem tab220 : tField Try.prog 40 2 = some (2, 38) := by kernel_rfl
@[go_sem] theorem tab221 : tFields Try.prog 40 = true := by kernel_rfl
@[go_sem] theorem tab222 : tSize Try.prog 50 = some 1 := by kernel_rfl
@[go_sem] theorem tab223 : tAgg Try.prog 50 = some false := by kernel_rfl
@[go_sem] theorem tab224 : tZero Try.prog 50 = some [.nil0] := by kernel_rfl
@[go_sem] theorem tab225 : tBytes Try.prog 50 = some 24 := by kernel_rfl
@[go_sem] theorem tab226 : (Program.underlying Try.prog 50).isSome = true := by kernel_rfl
@[go_sem] theorem tab227 : tElem Try.prog 50 = some 5 := by kernel_rfl
@[go_sem] theorem tab228 : tStr Try.prog 50 = false := by kernel_rfl
@[go_sem] theorem tab229 : tSize Try.prog 57 = some 1 := by kernel_rfl
@[go_sem] theorem tab230 : tAgg Try.prog 57 = some false := by kernel_rfl
@[go_sem] theorem tab231 : tZero Try.prog 57 = some [.nil0] := by kernel_rfl
@[go_sem] theorem tab232 : tBytes Try.prog 57 = some 24 := by kernel_rfl
@[go_sem] theorem tab233 : (Program.underlying Try.prog 57).isSome = true := by kernel_rfl
@[go_sem] theorem tab234 : tElem Try.prog 57 = some 9 := by kernel_rfl
@[go_sem] theorem tab235 : tStr Try.prog 57 = false := by kernel_rfl
@[go_sem] theorem tab236 : tSize Try.prog 58 = some 7 := by kernel_rfl
@[go_sem] theorem tab237 : tAgg Try.prog 58 = some true := by kernel_rfl
@[go_sem] theorem tab238 : tZero Try.prog 58 = some [.t (.str ⟨#[]⟩), .t (.str ⟨#[]⟩), .nil0, .nil0, .t (.int .i64 0), .t (.str ⟨#[]⟩), .nil0] := by kernel_rfl
@[go_sem] theorem tab239 : tBytes Try.prog 58 = some 128 := by kernel_rfl
@[go_sem] theorem tab240 : (Program.underlying Try.prog 58).isSome = true := by kernel_rfl
@[go_sem] theorem tab241 : tStr Try.prog 58 = false := by kernel_rfl
@[go_sem] theorem tab242 : tField Try.prog 58 0 = some (0, 9) := by kernel_rfl
@[go_sem] theorem tab243 : tField Try.prog 58 1 = some (1, 9) := by kernel_rfl
@[go_sem] theorem tab244 : tField Try.prog 58 2 = some (2, 57) := by kernel_rfl
@[go_sem] theorem tab245 : tField Try.prog 58 3 = some (3, 57) := by kernel_rfl
@[go_sem] theorem tab246 : tField Try.prog 58 4 = some (4, 40) := by kernel_rfl
@[go_sem] theorem tab247 : tFields Try.prog 58 = true := by kernel_rfl
@[go_sem] theorem tab248 : tSize Try.prog 59 = some 7 := by kernel_rfl
@[go_sem] theorem tab249 : tAgg Try.prog 59 = some true := by kernel_rfl
@[go_sem] theorem tab250 : tZero Try.prog 59 = some [.t (.str ⟨#[]⟩), .t (.str ⟨#[]⟩), .nil0, .nil0, .t (.int .i64 0), .t (.str ⟨#[]⟩), .nil0] := by kernel_rfl
@[go_sem] theorem tab251 : tBytes Try.prog 59 = some 128 := by kernel_rfl
@[go_sem] theorem tab252 : (Program.underlying Try.prog 59).isSome = true := by kernel_rfl
@[go_sem] theorem tab253 : tStr Try.prog 59 = false := by kernel_rfl
@[go_sem] theorem tab254 : tField Try.prog 59 0 = some (0, 9) := by kernel_rfl
@[go_sem] theorem tab255 : tField Try.prog 59 1 = some (1, 9) := by kernel_rfl
@[go_sem] theorem tab256 : tField Try.prog 59 2 = some (2, 57) := by kernel_rfl
@[go_sem] theorem tab257 : tField Try.prog 59 3 = some (3, 57) := by kernel_rfl
@[go_sem] theorem tab258 : tField Try.prog 59 4 = some (4, 40) := by kernel_rfl
@[go_sem] theorem tab259 : tFields Try.prog 59 = true := by kernel_rfl
@[go_sem] theorem tab260 : mKey Try.prog 63 = true := by kernel_rfl
@[go_sem] theorem tab261 : mZero Try.prog 63 = some (.t (.int .i64 0)) := by kernel_rfl
@[go_sem] theorem tab262 : tSize Try.prog 63 = some 1 := by kernel_rfl
@[go_sem] theorem tab263 : tAgg Try.prog 63 = some false := by kernel_rfl
@[go_sem] theorem tab264 : tZero Try.prog 63 = some [.undef] := by kernel_rfl
@[go_sem] theorem tab265 : tBytes Try.prog 63 = some 8 := by kernel_rfl
@[go_sem] theorem tab266 : tSize Try.prog 79 = some 3 := by kernel_rfl
@[go_sem] theorem tab267 : tAgg Try.prog 79 = some true := by kernel_rfl
@[go_sem] theorem tab268 : tZero Try.prog 79 = some [.t (.str ⟨#[]⟩), .t (.int .i64 0), .t (.bool false)] := by kernel_rfl
@[go_sem] theorem tab269 : tBytes Try.prog 79 = some 32 := by kernel_rfl
@[go_sem] theorem tab270 : (Program.underlying Try.prog 79).isSome = true := by kernel_rfl
@[go_sem] theorem tab271 : tStr Try.prog 79 = false := by kernel_rfl
@[go_sem] theorem tab272 : tField Try.prog 79 0 = some (0, 9) := by kernel_rfl
@[go_sem] theorem tab273 : tField Try.prog 79 1 = some (1, 3) := by kernel_rfl
@[go_sem] theorem tab274 : tField Try.prog 79 2 = some (2, 4) := by kernel_rfl
@[go_sem] theorem tab275 : tFields Try.prog 79 = true := by kernel_rfl
@[go_sem] theorem tab276 : tSize Try.prog 80 = some 3 := by kernel_rfl
@[go_sem] theorem tab277 : tAgg Try.prog 80 = some true := by kernel_rfl
@[go_sem] theorem tab278 : tZero Try.prog 80 = some [.t (.str ⟨#[]⟩), .t (.int .i64 0), .t (.bool false)] := by kernel_rfl
@[go_sem] theorem tab279 : tBytes Try.prog 80 = some 32 := by kernel_rfl
@[go_sem] theorem tab280 : (Program.underlying Try.prog 80).isSome = true := by kernel_rfl
@[go_sem] theorem tab281 : tStr Try.prog 80 = false := by kernel_rfl
@[go_sem] theorem tab282 : tField Try.prog 80 0 = some (0, 9) := by kernel_rfl
@[go_sem] theorem tab283 : tField Try.prog 80 1 = some (1, 3) := by kernel_rfl
@[go_sem] theorem tab284 : tField Try.prog 80 2 = some (2, 4) := by kernel_rfl
@[go_sem] theorem tab285 : tFields Try.prog 80 = true := by kernel_rfl
@[go_sem] theorem tab286 : tSize Try.prog 82 = some 2 := by kernel_rfl
@[go_sem] theorem tab287 : tAgg Try.prog 82 = some true := by kernel_rfl
@[go_sem] theorem tab288 : tZero Try.prog 82 = some [.t (.str ⟨#[]⟩), .t (.int .i64 0)] := by kernel_rfl
@[go_sem] theorem tab289 : tBytes Try.prog 82 = some 24 := by kernel_rfl
@[go_sem] theorem tab290 : (Program.underlying Try.prog 82).isSome = true := by kernel_rfl
@[go_sem] theorem tab291 : tStr Try.prog 82 = false := by kernel_rfl
@[go_sem] theorem tab292 : tField Try.prog 82 0 = some (0, 9) := by kernel_rfl
@[go_sem] theorem tab293 : tField Try.prog 82 1 = some (1, 3) := by kernel_rfl
@[go_sem] theorem tab294 : tFields Try.prog 82 = true := by kernel_rfl
@[go_sem] theorem tab295 : tSize Try.prog 83 = some 2 := by kernel_rfl
@[go_sem] theorem tab296 : tAgg Try.prog 83 = some true := by kernel_rfl
@[go_sem] theorem tab297 : tZero Try.prog 83 = some [.t (.str ⟨#[]⟩), .t (.int .i64 0)] := by kernel_rfl
@[go_sem] theorem tab298 : tBytes Try.prog 83 = some 24 := by kernel_rfl
@[go_sem] theorem tab299 : (Program.underlying Try.prog 83).isSome = true := by kernel_rfl
@[go_sem] theorem tab300 : tStr Try.prog 83 = false := by kernel_rfl
@[go_sem] theorem tab301 : tField Try.prog 83 0 = some (0, 9) := by kernel_rfl
@[go_sem] theorem tab302 : tField Try.prog 83 1 = some (1, 3) := by kernel_rfl
@[go_sem] theorem tab303 : tFields Try.prog 83 = true := by kernel_rfl
@[go_sem] theorem tab304 : tSize Try.prog 93 = some 7 := by kernel_rfl
@[go_sem] theorem tab305 : tAgg Try.prog 93 = some true := by kernel_rfl
@[go_sem] theorem tab306 : tZero Try.prog 93 = some [.t (.str ⟨#[]⟩), .t (.str ⟨#[]⟩), .nil0, .nil0, .t (.int .i64 0), .t (.str ⟨#[]⟩), .nil0] := by kernel_rfl
@[go_sem] theorem tab307 : tBytes Try.prog 93 = some 128 := by kernel_rfl
@[go_sem] theorem tab308 : (Program.underlying Try.prog 93).isSome = true := by kernel_rfl
@[go_sem] theorem tab309 : tStr Try.prog 93 = false := by kernel_rfl
@[go_sem] theorem tab310 : tField Try.prog 93 0 = some (0, 9) := by kernel_rfl
@[go_sem] theorem tab311 : tField Try.prog 93 1 = some (1, 9) := by kernel_rfl
@[go_sem] theorem tab312 : tField Try.prog 93 2 = some (2, 57) := by kernel_rfl
@[go_sem] theorem tab313 : tField Try.prog 93 3 = some (3, 57) := by kernel_rfl
@[go_sem] theorem tab314 : tField Try.prog 93 4 = some (4, 35) := by kernel_rfl
@[go_sem] theorem tab315 : tFields Try.prog 93 = true := by kernel_rfl
@[go_sem] theorem tab316 : tSize Try.prog 94 = some 7 := by kernel_rfl
@[go_sem] theorem tab317 : tAgg Try.prog 94 = some true := by kernel_rfl
@[go_sem] theorem tab318 : tZero Try.prog 94 = some [.t (.str ⟨#[]⟩), .t (.str ⟨#[]⟩), .nil0, .nil0, .t (.int .i64 0), .t (.str ⟨#[]⟩), .nil0] := by kernel_rfl
@[go_sem] theorem tab319 : tBytes Try.prog 94 = some 128 := by kernel_rfl
@[go_sem] theorem tab320 : (Program.underlying Try.prog 94).isSome = true := by kernel_rfl
@[go_sem] theorem tab321 : tStr Try.prog 94 = false := by kernel_rfl
@[go_sem] theorem tab322 : tField Try.prog 94 0 = some (0, 9) := by kernel_rfl
@[go_sem] theorem tab323 : tField Try.prog 94 1 = some (1, 9) := by kernel_rfl
@[go_sem] theorem tab324 : tField Try.prog 94 2 = some (2, 57) := by kernel_rfl
@[go_sem] theorem tab325 : tField Try.prog 94 3 = some (3, 57) := by kernel_rfl
@[go_sem] theorem tab326 : tField Try.prog 94 4 = some (4, 35) := by kernel_rfl
@[go_sem] theorem tab327 : tFields Try.prog 94 = true := by kernel_rfl
@[go_sem] theorem tab328 : tSize Try.prog 106 = some 1 := by kernel_rfl
@[go_sem] theorem tab329 : tAgg Try.prog 106 = some false := by kernel_rfl
@[go_sem] theorem tab330 : tZero Try.prog 106 = some [.nil0] := by kernel_rfl
@[go_sem] theorem tab331 : tBytes Try.prog 106 = some 24 := by kernel_rfl
@[go_sem] theorem tab332 : (Program.underlying Try.prog 106).isSome = true := by kernel_rfl
@[go_sem] theorem tab333 : tElem Try.prog 106 = some 57 := by kernel_rfl
@[go_sem] theorem tab334 : tStr Try.prog 106 = false := by kernel_rfl
@[go_sem] theorem tab335 : tSize Try.prog 121 = some 3 := by kernel_rfl
@[go_sem] theorem tab336 : tAgg Try.prog 121 = some true := by kernel_rfl
@[go_sem] theorem tab337 : tZero Try.prog 121 = some [.nil0, .t (.int .i64 0), .t (.int .i64 0)] := by kernel_rfl
@[go_sem] theorem tab338 : tBytes Try.prog 121 = some 40 := by kernel_rfl
@[go_sem] theorem tab339 : (Program.underlying Try.prog 121).isSome = true := by kernel_rfl
@[go_sem] theorem tab340 : tStr Try.prog 121 = false := by kernel_rfl
@[go_sem] theorem tab341 : tField Try.prog 121 0 = some (0, 50) := by kernel_rfl
@[go_sem] theorem tab342 : tField Try.prog 121 1 = some (1, 3) := by kernel_rfl
@[go_sem] theorem tab343 : tField Try.prog 121 2 = some (2, 3) := by kernel_rfl
@[go_sem] theorem tab344 : tFields Try.prog 121 = true := by kernel_rfl
@[go_sem] theorem tab345 : tSize Try.prog 122 = some 3 := by kernel_rfl
@[go_sem] theorem tab346 : tAgg Try.prog 122 = some true := by kernel_rfl
@[go_sem] theorem tab347 : tZero Try.prog 122 = some [.nil0, .t (.int .i64 0), .t (.int .i64 0)] := by kernel_rfl
@[go_sem] theorem tab348 : tBytes Try.prog 122 = some 40 := by kernel_rfl
@[go_sem] theorem tab349 : (Program.underlying Try.prog 122).isSome = true := by kernel_rfl
@[go_sem] theorem tab350 : tStr Try.prog 122 = false := by kernel_rfl
@[go_sem] theorem tab351 : tField Try.prog 122 0 = some (0, 50) := by kernel_rfl
@[go_sem] theorem tab352 : tField Try.prog 122 1 = some (1, 3) := by kernel_rfl
@[go_sem] theorem tab353 : tField Try.prog 122 2 = some (2, 3) := by kernel_rfl
@[go_sem] theorem tab354 : tFields Try.prog 122 = true := by kernel_rfl
@[go_sem] theorem tab355 : tSize Try.prog 139 = some 1 := by kernel_rfl
@[go_sem] theorem tab356 : tAgg Try.prog 139 = some false := by kernel_rfl
@[go_sem] theorem tab357 : tBytes Try.prog 139 = some 16 := by kernel_rfl
@[go_sem] theorem tab358 : (Program.underlying Try.prog 139).isSome = true := by kernel_rfl
@[go_sem] theorem tab359 : tStr Try.prog 139 = false := by kernel_rfl
@[go_sem] theorem tab360 : tIface Try.prog 139 = true := by kernel_rfl
@[go_sem] theorem tab361 : tSize Try.prog 140 = some 1 := by kernel_rfl
@[go_sem] theorem tab362 : tAgg Try.prog 140 = some false := by kernel_rfl
@[go_sem] theorem tab363 : tBytes Try.prog 140 = some 16 := by kernel_rfl
@[go_sem] theorem tab364 : (Program.underlying Try.prog 140).isSome = true := by kernel_rfl
@[go_sem] theorem tab365 : tStr Try.prog 140 = false := by kernel_rfl
@[go_sem] theorem tab366 : tIface Try.prog 140 = true := by kernel_rfl
@[go_sem] theorem tab367 : tSize Try.prog 144 = some 1 := by kernel_rfl
@[go_sem] theorem tab368 : tAgg Try.prog 144 = some false := by kernel_rfl
@[go_sem] theorem tab369 : tZero Try.prog 144 = some [.t (.int .u64 0)] := by kernel_rfl
@[go_sem] theorem tab370 : tBytes Try.prog 144 = some 8 := by kernel_rfl
@[go_sem] theorem tab371 : (Program.underlying Try.prog 144).isSome = true := by kernel_rfl
@[go_sem] theorem tab372 : tStr Try.prog 144 = false := by kernel_rfl
@[go_sem] theorem tab373 : tElem Try.prog 144 = none := by kernel_rfl
@[go_sem] theorem tab374 : tInt Try.prog 144 = some .u64 := by kernel_rfl
@[go_sem] theorem tab375 : tSize Try.prog 155 = some 1 := by kernel_rfl
@[go_sem] theorem tab376 : tAgg Try.prog 155 = some false := by kernel_rfl
@[go_sem] theorem tab377 : tZero Try.prog 155 = some [.t (.int .u32 0)] := by kernel_rfl
@[go_sem] theorem tab378 : tBytes Try.prog 155 = some 4 := by kernel_rfl
@[go_sem] theorem tab379 : (Program.underlying Try.prog 155).isSome = true := by kernel_rfl
@[go_sem] theorem tab380 : tStr Try.prog 155 = false := by kernel_rfl
@[go_sem] theorem tab381 : tElem Try.prog 155 = none := by kernel_rfl
@[go_sem] theorem tab382 : tInt Try.prog 155 = some .u32 := by kernel_rfl
@[go_sem] theorem tab383 : tSize Try.prog 156 = some 1 := by kernel_rfl
@[go_sem] theorem tab384 : tAgg Try.prog 156 = some false := by kernel_rfl
@[go_sem] theorem tab385 : tZero Try.prog 156 = some [.t (.int .u8 0)] := by kernel_rfl
@[go_sem] theorem tab386 : tBytes Try.prog 156 = some 1 := by kernel_rfl
@[go_sem] theorem tab387 : (Program.underlying Try.prog 156).isSome = true := by kernel_rfl
@[go_sem] theorem tab388 : tStr Try.prog 156 = false := by kernel_rfl
@[go_sem] theorem tab389 : tElem Try.prog 156 = none := by kernel_rfl
@[go_sem] theorem tab390 : tInt Try.prog 156 = some .u8 := by kernel_rfl
@[go_sem] theorem tab391 : tSize Try.prog 157 = some 1 := by kernel_rfl
@[go_sem] theorem tab392 : tAgg Try.prog 157 = some false := by kernel_rfl
@[go_sem] theorem tab393 : tZero Try.prog 157 = some [.t (.int .u8 0)] := by kernel_rfl
@[go_sem] theorem tab394 : tBytes Try.prog 157 = some 1 := by kernel_rfl
@[go_sem] theorem tab395 : (Program.underlying Try.prog 157).isSome = true := by kernel_rfl
@[go_sem] theorem tab396 : tStr Try.prog 157 = false := by kernel_rfl
@[go_sem] theorem tab397 : tElem Try.prog 157 = none := by kernel_rfl
@[go_sem] theorem tab398 : tInt Try.prog 157 = some .u8 := by kernel_rfl
@[go_sem] theorem tab399 : tSize Try.prog 159 = some 1 := by kernel_rfl
@[go_sem] theorem tab400 : tAgg Try.prog 159 = some false := by kernel_rfl
@[go_sem] theorem tab401 : tZero Try.prog 159 = some [.t (.int .i32 0)] := by kernel_rfl
@[go_sem] theorem tab402 : tBytes Try.prog 159 = some 4 := by kernel_rfl
@[go_sem] theorem tab403 : (Program.underlying Try.prog 159).isSome = true := by kernel_rfl
@[go_sem] theorem tab404 : tStr Try.prog 159 = false := by kernel_rfl
@[go_sem] theorem tab405 : tElem Try.prog 159 = none := by kernel_rfl
@[go_sem] theorem tab406 : tInt Try.prog 159 = some .i32 := by kernel_rfl
@[go_sem] theorem tab407 : tSize Try.prog 160 = some 1 := by kernel_rfl
@[go_sem] theorem tab408 : tAgg Try.prog 160 = some false := by kernel_rfl
@[go_sem] theorem tab409 : tZero Try.prog 160 = some [.t (.int .i32 0)] := by kernel_rfl
@[go_sem] theorem tab410 : tBytes Try.prog 160 = some 4 := by kernel_rfl
@[go_sem] theorem tab411 : (Program.underlying Try.prog 160).isSome = true := by kernel_rfl
@[go_sem] theorem tab412 : tStr Try.prog 160 = false := by kernel_rfl
@[go_sem] theorem tab413 : tElem Try.prog 160 = none := by kernel_rfl
@[go_sem] theorem tab414 : tInt Try.prog 160 = some .i32 := by kernel_rfl
end Go.Proofs.Ytldhhppfnhgcdaa
