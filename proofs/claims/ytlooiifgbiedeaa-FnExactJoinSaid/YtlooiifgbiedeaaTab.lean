/- Facts on the seat's types, for walks by rewriting. -/
import Derived.Test.YtlooiifgbiedeaaProg
import Derived.Test.YtlooiifgbiedeaaV28
import Derived.KernelRfl
namespace Go.Proofs.Ytlooiifgbiedeaa
open Go Go.VL
theorem mixed : Try.prog.follows .mixedOrders = true := by kernel_rfl
@[go_sem] theorem tab0 : tSize Try.prog 2 = some 1 := by kernel_rfl
@[go_sem] theorem tab1 : tAgg Try.prog 2 = some false := by kernel_rfl
@[go_sem] theorem tab2 : tZero Try.prog 2 = some [.t (.int .i64 0)] := by kernel_rfl
@[go_sem] theorem tab3 : tBytes Try.prog 2 = some 8 := by kernel_rfl
@[go_sem] theorem tab4 : (Program.underlying Try.prog 2).isSome = true := by kernel_rfl
@[go_sem] theorem tab5 : tStr Try.prog 2 = false := by kernel_rfl
@[go_sem] theorem tab6 : tElem Try.prog 2 = none := by kernel_rfl
@[go_sem] theorem tab7 : tInt Try.prog 2 = some .i64 := by kernel_rfl
@[go_sem] theorem tab8 : tSize Try.prog 3 = some 1 := by kernel_rfl
@[go_sem] theorem tab9 : tAgg Try.prog 3 = some false := by kernel_rfl
@[go_sem] theorem tab10 : tZero Try.prog 3 = some [.t (.int .i64 0)] := by kernel_rfl
@[go_sem] theorem tab11 : tBytes Try.prog 3 = some 8 := by kernel_rfl
@[go_sem] theorem tab12 : (Program.underlying Try.prog 3).isSome = true := by kernel_rfl
@[go_sem] theorem tab13 : tStr Try.prog 3 = false := by kernel_rfl
@[go_sem] theorem tab14 : tElem Try.prog 3 = none := by kernel_rfl
@[go_sem] theorem tab15 : tInt Try.prog 3 = some .i64 := by kernel_rfl
@[go_sem] theorem tab16 : tSize Try.prog 4 = some 1 := by kernel_rfl
@[go_sem] theorem tab17 : tAgg Try.prog 4 = some false := by kernel_rfl
@[go_sem] theorem tab18 : tZero Try.prog 4 = some [.t (.bool false)] := by kernel_rfl
@[go_sem] theorem tab19 : tBytes Try.prog 4 = some 1 := by kernel_rfl
@[go_sem] theorem tab20 : (Program.underlying Try.prog 4).isSome = true := by kernel_rfl
@[go_sem] theorem tab21 : tStr Try.prog 4 = false := by kernel_rfl
@[go_sem] theorem tab22 : tBool Try.prog 4 = true := by kernel_rfl
@[go_sem] theorem tab23 : tSize Try.prog 5 = some 1 := by kernel_rfl
@[go_sem] theorem tab24 : tAgg Try.prog 5 = some false := by kernel_rfl
@[go_sem] theorem tab25 : tZero Try.prog 5 = some [.t (.int .u8 0)] := by kernel_rfl
@[go_sem] theorem tab26 : tBytes Try.prog 5 = some 1 := by kernel_rfl
@[go_sem] theorem tab27 : (Program.underlying Try.prog 5).isSome = true := by kernel_rfl
@[go_sem] theorem tab28 : tStr Try.prog 5 = false := by kernel_rfl
@[go_sem] theorem tab29 : tElem Try.prog 5 = none := by kernel_rfl
@[go_sem] theorem tab30 : tInt Try.prog 5 = some .u8 := by kernel_rfl
@[go_sem] theorem tab31 : tSize Try.prog 6 = some 1 := by kernel_rfl
@[go_sem] theorem tab32 : tAgg Try.prog 6 = some false := by kernel_rfl
@[go_sem] theorem tab33 : tZero Try.prog 6 = some [.t (.int .u8 0)] := by kernel_rfl
@[go_sem] theorem tab34 : tBytes Try.prog 6 = some 1 := by kernel_rfl
@[go_sem] theorem tab35 : (Program.underlying Try.prog 6).isSome = true := by kernel_rfl
@[go_sem] theorem tab36 : tStr Try.prog 6 = false := by kernel_rfl
@[go_sem] theorem tab37 : tElem Try.prog 6 = none := by kernel_rfl
@[go_sem] theorem tab38 : tInt Try.prog 6 = some .u8 := by kernel_rfl
@[go_sem] theorem tab39 : tSize Try.prog 7 = some 4 := by kernel_rfl
@[go_sem] theorem tab40 : tAgg Try.prog 7 = some true := by kernel_rfl
@[go_sem] theorem tab41 : tZero Try.prog 7 = some [.t (.int .i64 0), .t (.int .i64 0), .t (.bool false), .t (.int .u8 0)] := by kernel_rfl
@[go_sem] theorem tab42 : tBytes Try.prog 7 = some 24 := by kernel_rfl
@[go_sem] theorem tab43 : (Program.underlying Try.prog 7).isSome = true := by kernel_rfl
@[go_sem] theorem tab44 : tStr Try.prog 7 = false := by kernel_rfl
@[go_sem] theorem tab45 : tField Try.prog 7 0 = some (0, 2) := by kernel_rfl
@[go_sem] theorem tab46 : tField Try.prog 7 1 = some (1, 3) := by kernel_rfl
@[go_sem] theorem tab47 : tField Try.prog 7 2 = some (2, 4) := by kernel_rfl
@[go_sem] theorem tab48 : tField Try.prog 7 3 = some (3, 6) := by kernel_rfl
@[go_sem] theorem tab49 : tFields Try.prog 7 = true := by kernel_rfl
@[go_sem] theorem tab50 : tSize Try.prog 8 = some 4 := by kernel_rfl
@[go_sem] theorem tab51 : tAgg Try.prog 8 = some true := by kernel_rfl
@[go_sem] theorem tab52 : tZero Try.prog 8 = some [.t (.int .i64 0), .t (.int .i64 0), .t (.bool false), .t (.int .u8 0)] := by kernel_rfl
@[go_sem] theorem tab53 : tBytes Try.prog 8 = some 24 := by kernel_rfl
@[go_sem] theorem tab54 : (Program.underlying Try.prog 8).isSome = true := by kernel_rfl
@[go_sem] theorem tab55 : tStr Try.prog 8 = false := by kernel_rfl
@[go_sem] theorem tab56 : tField Try.prog 8 0 = some (0, 2) := by kernel_rfl
@[go_sem] theorem tab57 : tField Try.prog 8 1 = some (1, 3) := by kernel_rfl
@[go_sem] theorem tab58 : tField Try.prog 8 2 = some (2, 4) := by kernel_rfl
@[go_sem] theorem tab59 : tField Try.prog 8 3 = some (3, 6) := by kernel_rfl
@[go_sem] theorem tab60 : tFields Try.prog 8 = true := by kernel_rfl
@[go_sem] theorem tab61 : tSize Try.prog 9 = some 1 := by kernel_rfl
@[go_sem] theorem tab62 : tAgg Try.prog 9 = some false := by kernel_rfl
@[go_sem] theorem tab63 : tZero Try.prog 9 = some [.t (.str ⟨#[]⟩)] := by kernel_rfl
@[go_sem] theorem tab64 : tBytes Try.prog 9 = some 16 := by kernel_rfl
@[go_sem] theorem tab65 : (Program.underlying Try.prog 9).isSome = true := by kernel_rfl
@[go_sem] theorem tab66 : tStr Try.prog 9 = true := by kernel_rfl
@[go_sem] theorem tab67 : tElem Try.prog 9 = none := by kernel_rfl
@[go_sem] theorem tab68 : tSize Try.prog 10 = some 1 := by kernel_rfl
@[go_sem] theorem tab69 : tAgg Try.prog 10 = some false := by kernel_rfl
@[go_sem] theorem tab70 : tZero Try.prog 10 = some [.t (.str ⟨#[]⟩)] := by kernel_rfl
@[go_sem] theorem tab71 : tBytes Try.prog 10 = some 16 := by kernel_rfl
@[go_sem] theorem tab72 : (Program.underlying Try.prog 10).isSome = true := by kernel_rfl
@[go_sem] theorem tab73 : tStr Try.prog 10 = true := by kernel_rfl
@[go_sem] theorem tab74 : tElem Try.prog 10 = none := by kernel_rfl
@[go_sem] theorem tab75 : tSize Try.prog 11 = some 1 := by kernel_rfl
@[go_sem] theorem tab76 : tAgg Try.prog 11 = some false := by kernel_rfl
@[go_sem] theorem tab77 : tZero Try.prog 11 = some [.t (.str ⟨#[]⟩)] := by kernel_rfl
@[go_sem] theorem tab78 : tBytes Try.prog 11 = some 16 := by kernel_rfl
@[go_sem] theorem tab79 : (Program.underlying Try.prog 11).isSome = true := by kernel_rfl
@[go_sem] theorem tab80 : tStr Try.prog 11 = true := by kernel_rfl
@[go_sem] theorem tab81 : tElem Try.prog 11 = none := by kernel_rfl
@[go_sem] theorem tab82 : tSize Try.prog 12 = some 1 := by kernel_rfl
@[go_sem] theorem tab83 : tAgg Try.prog 12 = some false := by kernel_rfl
@[go_sem] theorem tab84 : tZero Try.prog 12 = some [.t (.int .u64 0)] := by kernel_rfl
@[go_sem] theorem tab85 : tBytes Try.prog 12 = some 8 := by kernel_rfl
@[go_sem] theorem tab86 : (Program.underlying Try.prog 12).isSome = true := by kernel_rfl
@[go_sem] theorem tab87 : tStr Try.prog 12 = false := by kernel_rfl
@[go_sem] theorem tab88 : tElem Try.prog 12 = none := by kernel_rfl
@[go_sem] theorem tab89 : tInt Try.prog 12 = some .u64 := by kernel_rfl
@[go_sem] theorem tab90 : tSize Try.prog 13 = some 2 := by kernel_rfl
@[go_sem] theorem tab91 : tAgg Try.prog 13 = some true := by kernel_rfl
@[go_sem] theorem tab92 : tZero Try.prog 13 = some [.t (.str ⟨#[]⟩), .t (.int .u64 0)] := by kernel_rfl
@[go_sem] theorem tab93 : tBytes Try.prog 13 = some 24 := by kernel_rfl
@[go_sem] theorem tab94 : (Program.underlying Try.prog 13).isSome = true := by kernel_rfl
@[go_sem] theorem tab95 : tStr Try.prog 13 = false := by kernel_rfl
@[go_sem] theorem tab96 : tField Try.prog 13 0 = some (0, 9) := by kernel_rfl
@[go_sem] theorem tab97 : tField Try.prog 13 1 = some (1, 12) := by kernel_rfl
@[go_sem] theorem tab98 : tFields Try.prog 13 = true := by kernel_rfl
@[go_sem] theorem tab99 : tSize Try.prog 14 = some 2 := by kernel_rfl
@[go_sem] theorem tab100 : tAgg Try.prog 14 = some true := by kernel_rfl
@[go_sem] theorem tab101 : tZero Try.prog 14 = some [.t (.str ⟨#[]⟩), .t (.int .u64 0)] := by kernel_rfl
@[go_sem] theorem tab102 : tBytes Try.prog 14 = some 24 := by kernel_rfl
@[go_sem] theorem tab103 : (Program.underlying Try.prog 14).isSome = true := by kernel_rfl
@[go_sem] theorem tab104 : tStr Try.prog 14 = false := by kernel_rfl
@[go_sem] theorem tab105 : tField Try.prog 14 0 = some (0, 9) := by kernel_rfl
@[go_sem] theorem tab106 : tField Try.prog 14 1 = some (1, 12) := by kernel_rfl
@[go_sem] theorem tab107 : tFields Try.prog 14 = true := by kernel_rfl
@[go_sem] theorem tab108 : tSize Try.prog 20 = some 1 := by kernel_rfl
@[go_sem] theorem tab109 : tAgg Try.prog 20 = some false := by kernel_rfl
@[go_sem] theorem tab110 : tBytes Try.prog 20 = some 16 := by kernel_rfl
@[go_sem] theorem tab111 : (Program.underlying Try.prog 20).isSome = true := by kernel_rfl
@[go_sem] theorem tab112 : tStr Try.prog 20 = false := by kernel_rfl
@[go_sem] theorem tab113 : tIface Try.prog 20 = true := by kernel_rfl
@[go_sem] theorem tab114 : tSize Try.prog 21 = some 1 := by kernel_rfl
@[go_sem] theorem tab115 : tAgg Try.prog 21 = some false := by kernel_rfl
@[go_sem] theorem tab116 : tZero Try.prog 21 = some [.t (.int .i32 0)] := by kernel_rfl
@[go_sem] theorem tab117 : tBytes Try.prog 21 = some 4 := by kernel_rfl
@[go_sem] theorem tab118 : (Program.underlying Try.prog 21).isSome = true := by kernel_rfl
@[go_sem] theorem tab119 : tStr Try.prog 21 = false := by kernel_rfl
@[go_sem] theorem tab120 : tElem Try.prog 21 = none := by kernel_rfl
@[go_sem] theorem tab121 : tInt Try.prog 21 = some .i32 := by kernel_rfl
@[go_sem] theorem tab122 : tSize Try.prog 22 = some 1 := by kernel_rfl
@[go_sem] theorem tab123 : tAgg Try.prog 22 = some false := by kernel_rfl
@[go_sem] theorem tab124 : tZero Try.prog 22 = some [.nil0] := by kernel_rfl
@[go_sem] theorem tab125 : tBytes Try.prog 22 = some 24 := by kernel_rfl
@[go_sem] theorem tab126 : (Program.underlying Try.prog 22).isSome = true := by kernel_rfl
@[go_sem] theorem tab127 : tElem Try.prog 22 = some 9 := by kernel_rfl
@[go_sem] theorem tab128 : tStr Try.prog 22 = false := by kernel_rfl
@[go_sem] theorem tab129 : tSize Try.prog 30 = some 1 := by kernel_rfl
@[go_sem] theorem tab130 : tAgg Try.prog 30 = some false := by kernel_rfl
@[go_sem] theorem tab131 : tZero Try.prog 30 = some [.nil0] := by kernel_rfl
@[go_sem] theorem tab132 : tBytes Try.prog 30 = some 24 := by kernel_rfl
@[go_sem] theorem tab133 : (Program.underlying Try.prog 30).isSome = true := by kernel_rfl
@[go_sem] theorem tab134 : tElem Try.prog 30 = some 32 := by kernel_rfl
@[go_sem] theorem tab135 : tStr Try.prog 30 = false := by kernel_rfl
@[go_sem] theorem tab136 : tSize Try.prog 31 = some 3 := by kernel_rfl
@[go_sem] theorem tab137 : tAgg Try.prog 31 = some true := by kernel_rfl
@[go_sem] theorem tab138 : tZero Try.prog 31 = some [.t (.int .i64 0), .t (.str ⟨#[]⟩), .nil0] := by kernel_rfl
@[go_sem] theorem tab139 : tBytes Try.prog 31 = some 48 := by kernel_rfl
@[go_sem] theorem tab140 : (Program.underlying Try.prog 31).isSome = true := by kernel_rfl
@[go_sem] theorem tab141 : tStr Try.prog 31 = false := by kernel_rfl
@[go_sem] theorem tab142 : tField Try.prog 31 0 = some (0, 3) := by kernel_rfl
@[go_sem] theorem tab143 : tField Try.prog 31 1 = some (1, 9) := by kernel_rfl
@[go_sem] theorem tab144 : tField Try.prog 31 2 = some (2, 30) := by kernel_rfl
@[go_sem] theorem tab145 : tFields Try.prog 31 = true := by kernel_rfl
@[go_sem] theorem tab146 : tSize Try.prog 32 = some 3 := by kernel_rfl
@[go_sem] theorem tab147 : tAgg Try.prog 32 = some true := by kernel_rfl
@[go_sem] theorem tab148 : tZero Try.prog 32 = some [.t (.int .i64 0), .t (.str ⟨#[]⟩), .nil0] := by kernel_rfl
@[go_sem] theorem tab149 : tBytes Try.prog 32 = some 48 := by kernel_rfl
@[go_sem] theorem tab150 : (Program.underlying Try.prog 32).isSome = true := by kernel_rfl
@[go_sem] theorem tab151 : tStr Try.prog 32 = false := by kernel_rfl
@[go_sem] theorem tab152 : tField Try.prog 32 0 = some (0, 3) := by kernel_rfl
@[go_sem] theorem tab153 : tField Try.prog 32 1 = some (1, 9) := by kernel_rfl
@[go_sem] theorem tab154 : tField Try.prog 32 2 = some (2, 30) := by kernel_rfl
@[go_sem] theorem tab155 : tFields Try.prog 32 = true := by kernel_rfl
@[go_sem] theorem tab156 : tSize Try.prog 35 = some 1 := by kernel_rfl
@[go_sem] theorem tab157 : tAgg Try.prog 35 = some false := by kernel_rfl
@[go_sem] theorem tab158 : tZero Try.prog 35 = some [.nil0] := by kernel_rfl
@[go_sem] theorem tab159 : tBytes Try.prog 35 = some 24 := by kernel_rfl
@[go_sem] theorem tab160 : (Program.underlying Try.prog 35).isSome = true := by kernel_rfl
@[go_sem] theorem tab161 : tElem Try.prog 35 = some 37 := by kernel_rfl
@[go_sem] theorem tab162 : tStr Try.prog 35 = false := by kernel_rfl
@[go_sem] theorem tab163 : tSize Try.prog 36 = some 3 := by kernel_rfl
@[go_sem] theorem tab164 : tAgg Try.prog 36 = some true := by kernel_rfl
@[go_sem] theorem tab165 : tZero Try.prog 36 = some [.t (.int .i64 0), .t (.str ⟨#[]⟩), .nil0] := by kernel_rfl
@[go_sem] theorem tab166 : tBytes Try.prog 36 = some 48 := by kernel_rfl
@[go_sem] theorem tab167 : (Program.underlying Try.prog 36).isSome = true := by kernel_rfl
@[go_sem] theorem tab168 : tStr Try.prog 36 = false := by kernel_rfl
@[go_sem] theorem tab169 : tField Try.prog 36 0 = some (0, 3) := by kernel_rfl
@[go_sem] theorem tab170 : tField Try.prog 36 1 = some (1, 9) := by kernel_rfl
@[go_sem] theorem tab171 : tField Try.prog 36 2 = some (2, 35) := by kernel_rfl
@[go_sem] theorem tab172 : tFields Try.prog 36 = true := by kernel_rfl
@[go_sem] theorem tab173 : tSize Try.prog 37 = some 3 := by kernel_rfl
@[go_sem] theorem tab174 : tAgg Try.prog 37 = some true := by kernel_rfl
@[go_sem] theorem tab175 : tZero Try.prog 37 = some [.t (.int .i64 0), .t (.str ⟨#[]⟩), .nil0] := by kernel_rfl
@[go_sem] theorem tab176 : tBytes Try.prog 37 = some 48 := by kernel_rfl
@[go_sem] theorem tab177 : (Program.underlying Try.prog 37).isSome = true := by kernel_rfl
@[go_sem] theorem tab178 : tStr Try.prog 37 = false := by kernel_rfl
@[go_sem] theorem tab179 : tField Try.prog 37 0 = some (0, 3) := by kernel_rfl
@[go_sem] theorem tab180 : tField Try.prog 37 1 = some (1, 9) := by kernel_rfl
@[go_sem] theorem tab181 : tField Try.prog 37 2 = some (2, 35) := by kernel_rfl
@[go_sem] theorem tab182 : tFields Try.prog 37 = true := by kernel_rfl
@[go_sem] theorem tab183 : tSize Try.prog 48 = some 1 := by kernel_rfl
@[go_sem] theorem tab184 : tAgg Try.prog 48 = some false := by kernel_rfl
@[go_sem] theorem tab185 : tZero Try.prog 48 = some [.nil0] := by kernel_rfl
@[go_sem] theorem tab186 : tBytes Try.prog 48 = some 24 := by kernel_rfl
@[go_sem] theorem tab187 : (Program.underlying Try.prog 48).isSome = true := by kernel_rfl
@[go_sem] theorem tab188 : tElem Try.prog 48 = some 82 := by kernel_rfl
@[go_sem] theorem tab189 : tStr Try.prog 48 = false := by kernel_rfl
@[go_sem] theorem tab190 : tSize Try.prog 52 = some 1 := by kernel_rfl
@[go_sem] theorem tab191 : tAgg Try.prog 52 = some false := by kernel_rfl
@[go_sem] theorem tab192 : tZero Try.prog 52 = some [.nil0] := by kernel_rfl
@[go_sem] theorem tab193 : tBytes Try.prog 52 = some 24 := by kernel_rfl
@[go_sem] theorem tab194 : (Program.underlying Try.prog 52).isSome = true := by kernel_rfl
@[go_sem] theorem tab195 : tElem Try.prog 52 = some 84 := by kernel_rfl
@[go_sem] theorem tab196 : tStr Try.prog 52 = false := by kernel_rfl
@[go_sem] theorem tab197 : tSize Try.prog 60 = some 1 := by kernel_rfl
@[go_sem] theorem tab198 : tAgg Try.prog 60 = some false := by kernel_rfl
@[go_sem] theorem tab199 : tZero Try.prog 60 = some [.nil0] := by kernel_rfl
@[go_sem] theorem tab200 : tBytes Try.prog 60 = some 24 := by kernel_rfl
@[go_sem] theorem tab201 : (Program.underlying Try.prog 60).isSome = true := by kernel_rfl
@[go_sem] theorem tab202 : tElem Try.prog 60 = some 133 := by kernel_rfl
@[go_sem] theorem tab203 : tStr Try.prog 60 = false := by kernel_rfl
@[go_sem] theorem tab204 : tSize Try.prog 61 = some 1 := by kernel_rfl
@[go_sem] theorem tab205 : tAgg Try.prog 61 = some true := by kernel_rfl
@[go_sem] theorem tab206 : tZero Try.prog 61 = some [.nil0] := by kernel_rfl
@[go_sem] theorem tab207 : tBytes Try.prog 61 = some 24 := by kernel_rfl
@[go_sem] theorem tab208 : (Program.underlying Try.prog 61).isSome = true := by kernel_rfl
@[go_sem] theorem tab209 : tStr Try.prog 61 = false := by kernel_rfl
@[go_sem] theorem tab210 : tField Try.prog 61 0 = some (0, 60) := by kernel_rfl
@[go_sem] theorem tab211 : tFields Try.prog 61 = true := by kernel_rfl
@[go_sem] theorem tab212 : tSize Try.prog 62 = some 1 := by kernel_rfl
@[go_sem] theorem tab213 : tAgg Try.prog 62 = some true := by kernel_rfl
@[go_sem] theorem tab214 : tZero Try.prog 62 = some [.nil0] := by kernel_rfl
@[go_sem] theorem tab215 : tBytes Try.prog 62 = some 24 := by kernel_rfl
@[go_sem] theorem tab216 : (Program.underlying Try.prog 62).isSome = true := by kernel_rfl
@[go_sem] theorem tab217 : tStr Try.prog 62 = false := by kernel_rfl
@[go_sem] theorem tab218 : tField Try.prog 62 0 = some (0, 60) := by kernel_rfl
@[go_sem] theorem tab219 : tFields Try.prog 62 = true := by kernel_rfl
@[go_sem] theorem tab220 : tSize Try.prog 65 = some 1 := by kernel_rfl
@[go_sem] theorem tab221 : tAgg Try.prog 65 = some false := by kernel_rfl
@[go_sem] theorem tab222 : tZero Try.prog 65 = some [.nil0] := by kernel_rfl
@[go_sem] theorem tab223 : tBytes Try.prog 65 = some 24 := by kernel_rfl
@[go_sem] theorem tab224 : (Program.underlying Try.prog 65).isSome = true := by kernel_rfl
@[go_sem] theorem tab225 : tElem Try.prog 65 = some 137 := by kernel_rfl
@[go_sem] theorem tab226 : tStr Try.prog 65 = false := by kernel_rfl
@[go_sem] theorem tab227 : tSize Try.prog 66 = some 1 := by kernel_rfl
@[go_sem] theorem tab228 : tAgg Try.prog 66 = some true := by kernel_rfl
@[go_sem] theorem tab229 : tZero Try.prog 66 = some [.nil0] := by kernel_rfl
@[go_sem] theorem tab230 : tBytes Try.prog 66 = some 24 := by kernel_rfl
@[go_sem] theorem tab231 : (Program.underlying Try.prog 66).isSome = true := by kernel_rfl
@[go_sem] theorem tab232 : tStr Try.prog 66 = false := by kernel_rfl
@[go_sem] theorem tab233 : tField Try.prog 66 0 = some (0, 65) := by kernel_rfl
@[go_sem] theorem tab234 : tFields Try.prog 66 = true := by kernel_rfl
@[go_sem] theorem tab235 : tSize Try.prog 67 = some 1 := by kernel_rfl
@[go_sem] theorem tab236 : tAgg Try.prog 67 = some true := by kernel_rfl
@[go_sem] theorem tab237 : tZero Try.prog 67 = some [.nil0] := by kernel_rfl
@[go_sem] theorem tab238 : tBytes Try.prog 67 = some 24 := by kernel_rfl
@[go_sem] theorem tab239 : (Program.underlying Try.prog 67).isSome = true := by kernel_rfl
@[go_sem] theorem tab240 : tStr Try.prog 67 = false := by kernel_rfl
@[go_sem] theorem tab241 : tField Try.prog 67 0 = some (0, 65) := by kernel_rfl
@[go_sem] theorem tab242 : tFields Try.prog 67 = true := by kernel_rfl
@[go_sem] theorem tab243 : tSize Try.prog 74 = some 1 := by kernel_rfl
@[go_sem] theorem tab244 : tAgg Try.prog 74 = some false := by kernel_rfl
@[go_sem] theorem tab245 : tZero Try.prog 74 = some [.nil0] := by kernel_rfl
@[go_sem] theorem tab246 : tBytes Try.prog 74 = some 24 := by kernel_rfl
@[go_sem] theorem tab247 : (Program.underlying Try.prog 74).isSome = true := by kernel_rfl
@[go_sem] theorem tab248 : tElem Try.prog 74 = some 5 := by kernel_rfl
@[go_sem] theorem tab249 : tStr Try.prog 74 = false := by kernel_rfl
@[go_sem] theorem tab250 : tSize Try.prog 81 = some 4 := by kernel_rfl
@[go_sem] theorem tab251 : tAgg Try.prog 81 = some true := by kernel_rfl
@[go_sem] theorem tab252 : tZero Try.prog 81 = some [.t (.str ⟨#[]⟩), .t (.int .i64 0), .t (.str ⟨#[]⟩), .nil0] := by kernel_rfl
@[go_sem] theorem tab253 : tBytes Try.prog 81 = some 64 := by kernel_rfl
@[go_sem] theorem tab254 : (Program.underlying Try.prog 81).isSome = true := by kernel_rfl
@[go_sem] theorem tab255 : tStr Try.prog 81 = false := by kernel_rfl
@[go_sem] theorem tab256 : tField Try.prog 81 0 = some (0, 9) := by kernel_rfl
@[go_sem] theorem tab257 : tField Try.prog 81 1 = some (1, 32) := by kernel_rfl
@[go_sem] theorem tab258 : tFields Try.prog 81 = true := by kernel_rfl
@[go_sem] theorem tab259 : tSize Try.prog 82 = some 4 := by kernel_rfl
@[go_sem] theorem tab260 : tAgg Try.prog 82 = some true := by kernel_rfl
@[go_sem] theorem tab261 : tZero Try.prog 82 = some [.t (.str ⟨#[]⟩), .t (.int .i64 0), .t (.str ⟨#[]⟩), .nil0] := by kernel_rfl
@[go_sem] theorem tab262 : tBytes Try.prog 82 = some 64 := by kernel_rfl
@[go_sem] theorem tab263 : (Program.underlying Try.prog 82).isSome = true := by kernel_rfl
@[go_sem] theorem tab264 : tStr Try.prog 82 = false := by kernel_rfl
@[go_sem] theorem tab265 : tField Try.prog 82 0 = some (0, 9) := by kernel_rfl
@[go_sem] theorem tab266 : tField Try.prog 82 1 = some (1, 32) := by kernel_rfl
@[go_sem] theorem tab267 : tFields Try.prog 82 = true := by kernel_rfl
@[go_sem] theorem tab268 : tSize Try.prog 83 = some 4 := by kernel_rfl
@[go_sem] theorem tab269 : tAgg Try.prog 83 = some true := by kernel_rfl
@[go_sem] theorem tab270 : tZero Try.prog 83 = some [.t (.str ⟨#[]⟩), .t (.int .i64 0), .t (.str ⟨#[]⟩), .nil0] := by kernel_rfl
@[go_sem] theorem tab271 : tBytes Try.prog 83 = some 64 := by kernel_rfl
@[go_sem] theorem tab272 : (Program.underlying Try.prog 83).isSome = true := by kernel_rfl
@[go_sem] theorem tab273 : tStr Try.prog 83 = false := by kernel_rfl
@[go_sem] theorem tab274 : tField Try.prog 83 0 = some (0, 9) := by kernel_rfl
@[go_sem] theorem tab275 : tField Try.prog 83 1 = some (1, 37) := by kernel_rfl
@[go_sem] theorem tab276 : tFields Try.prog 83 = true := by kernel_rfl
@[go_sem] theorem tab277 : tSize Try.prog 84 = some 4 := by kernel_rfl
@[go_sem] theorem tab278 : tAgg Try.prog 84 = some true := by kernel_rfl
@[go_sem] theorem tab279 : tZero Try.prog 84 = some [.t (.str ⟨#[]⟩), .t (.int .i64 0), .t (.str ⟨#[]⟩), .nil0] := by kernel_rfl
@[go_sem] theorem tab280 : tBytes Try.prog 84 = some 64 := by kernel_rfl
@[go_sem] theorem tab281 : (Program.underlying Try.prog 84).isSome = true := by kernel_rfl
@[go_sem] theorem tab282 : tStr Try.prog 84 = false := by kernel_rfl
@[go_sem] theorem tab283 : tField Try.prog 84 0 = some (0, 9) := by kernel_rfl
@[go_sem] theorem tab284 : tField Try.prog 84 1 = some (1, 37) := by kernel_rfl
@[go_sem] theorem tab285 : tFields Try.prog 84 = true := by kernel_rfl
@[go_sem] theorem tab286 : tSize Try.prog 90 = some 1 := by kernel_rfl
@[go_sem] theorem tab287 : tAgg Try.prog 90 = some false := by kernel_rfl
@[go_sem] theorem tab288 : tZero Try.prog 90 = some [.nil0] := by kernel_rfl
@[go_sem] theorem tab289 : tBytes Try.prog 90 = some 24 := by kernel_rfl
@[go_sem] theorem tab290 : (Program.underlying Try.prog 90).isSome = true := by kernel_rfl
@[go_sem] theorem tab291 : tElem Try.prog 90 = some 4 := by kernel_rfl
@[go_sem] theorem tab292 : tStr Try.prog 90 = false := by kernel_rfl
@[go_sem] theorem tab293 : tSize Try.prog 91 = some 1 := by kernel_rfl
@[go_sem] theorem tab294 : tAgg Try.prog 91 = some false := by kernel_rfl
@[go_sem] theorem tab295 : tZero Try.prog 91 = some [.nil0] := by kernel_rfl
@[go_sem] theorem tab296 : tBytes Try.prog 91 = some 24 := by kernel_rfl
@[go_sem] theorem tab297 : (Program.underlying Try.prog 91).isSome = true := by kernel_rfl
@[go_sem] theorem tab298 : tElem Try.prog 91 = some 90 := by kernel_rfl
@[go_sem] theorem tab299 : tStr Try.prog 91 = false := by kernel_rfl
@[go_sem] theorem tab300 : tSize Try.prog 92 = some 2 := by kernel_rfl
@[go_sem] theorem tab301 : tAgg Try.prog 92 = some true := by kernel_rfl
@[go_sem] theorem tab302 : tZero Try.prog 92 = some [.nil0, .nil0] := by kernel_rfl
@[go_sem] theorem tab303 : tBytes Try.prog 92 = some 48 := by kernel_rfl
@[go_sem] theorem tab304 : (Program.underlying Try.prog 92).isSome = true := by kernel_rfl
@[go_sem] theorem tab305 : tStr Try.prog 92 = false := by kernel_rfl
@[go_sem] theorem tab306 : tField Try.prog 92 0 = some (0, 91) := by kernel_rfl
@[go_sem] theorem tab307 : tField Try.prog 92 1 = some (1, 91) := by kernel_rfl
@[go_sem] theorem tab308 : tFields Try.prog 92 = true := by kernel_rfl
@[go_sem] theorem tab309 : tSize Try.prog 93 = some 2 := by kernel_rfl
@[go_sem] theorem tab310 : tAgg Try.prog 93 = some true := by kernel_rfl
@[go_sem] theorem tab311 : tZero Try.prog 93 = some [.nil0, .nil0] := by kernel_rfl
@[go_sem] theorem tab312 : tBytes Try.prog 93 = some 48 := by kernel_rfl
@[go_sem] theorem tab313 : (Program.underlying Try.prog 93).isSome = true := by kernel_rfl
@[go_sem] theorem tab314 : tStr Try.prog 93 = false := by kernel_rfl
@[go_sem] theorem tab315 : tField Try.prog 93 0 = some (0, 91) := by kernel_rfl
@[go_sem] theorem tab316 : tField Try.prog 93 1 = some (1, 91) := by kernel_rfl
@[go_sem] theorem tab317 : tFields Try.prog 93 = true := by kernel_rfl
@[go_sem] theorem tab318 : tSize Try.prog 94 = some 1 := by kernel_rfl
@[go_sem] theorem tab319 : tAgg Try.prog 94 = some false := by kernel_rfl
@[go_sem] theorem tab320 : tZero Try.prog 94 = some [.nil0] := by kernel_rfl
@[go_sem] theorem tab321 : tBytes Try.prog 94 = some 24 := by kernel_rfl
@[go_sem] theorem tab322 : (Program.underlying Try.prog 94).isSome = true := by kernel_rfl
@[go_sem] theorem tab323 : tElem Try.prog 94 = some 3 := by kernel_rfl
@[go_sem] theorem tab324 : tStr Try.prog 94 = false := by kernel_rfl
@[go_sem] theorem tab325 : tSize Try.prog 105 = some 1 := by kernel_rfl
@[go_sem] theorem tab326 : tAgg Try.prog 105 = some false := by kernel_rfl
@[go_sem] theorem tab327 : tZero Try.prog 105 = some [.nil0] := by kernel_rfl
@[go_sem] theorem tab328 : tBytes Try.prog 105 = some 24 := by kernel_rfl
@[go_sem] theorem tab329 : (Program.underlying Try.prog 105).isSome = true := by kernel_rfl
@[go_sem] theorem tab330 : tElem Try.prog 105 = some 22 := by kernel_rfl
@[go_sem] theorem tab331 : tStr Try.prog 105 = false := by kernel_rfl
@[go_sem] theorem tab332 : tSize Try.prog 111 = some 1 := by kernel_rfl
@[go_sem] theorem tab333 : tAgg Try.prog 111 = some false := by kernel_rfl
@[go_sem] theorem tab334 : tBytes Try.prog 111 = some 16 := by kernel_rfl
@[go_sem] theorem tab335 : (Program.underlying Try.prog 111).isSome = true := by kernel_rfl
@[go_sem] theorem tab336 : tStr Try.prog 111 = false := by kernel_rfl
@[go_sem] theorem tab337 : tIface Try.prog 111 = true := by kernel_rfl
@[go_sem] theorem tab338 : tSize Try.prog 112 = some 1 := by kernel_rfl
@[go_sem] theorem tab339 : tAgg Try.prog 112 = some false := by kernel_rfl
@[go_sem] theorem tab340 : tBytes Try.prog 112 = some 16 := by kernel_rfl
@[go_sem] theorem tab341 : (Program.underlying Try.prog 112).isSome = true := by kernel_rfl
@[go_sem] theorem tab342 : tStr Try.prog 112 = false := by kernel_rfl
@[go_sem] theorem tab343 : tIface Try.prog 112 = true := by kernel_rfl
@[go_sem] theorem tab344 : tSize Try.prog 121 = some 1 := by kernel_rfl
@[go_sem] theorem tab345 : tAgg Try.prog 121 = some false := by kernel_rfl
@[go_sem] theorem tab346 : tZero Try.prog 121 = some [.nil0] := by kernel_rfl
@[go_sem] theorem tab347 : tBytes Try.prog 121 = some 24 := by kernel_rfl
@[go_sem] theorem tab348 : (Program.underlying Try.prog 121).isSome = true := by kernel_rfl
@[go_sem] theorem tab349 : tElem Try.prog 121 = some 126 := by kernel_rfl
@[go_sem] theorem tab350 : tStr Try.prog 121 = false := by kernel_rfl
@[go_sem] theorem tab351 : tSize Try.prog 125 = some 3 := by kernel_rfl
@[go_sem] theorem tab352 : tAgg Try.prog 125 = some true := by kernel_rfl
@[go_sem] theorem tab353 : tZero Try.prog 125 = some [.t (.int .i64 0), .t (.str ⟨#[]⟩), .nil0] := by kernel_rfl
@[go_sem] theorem tab354 : tBytes Try.prog 125 = some 48 := by kernel_rfl
@[go_sem] theorem tab355 : (Program.underlying Try.prog 125).isSome = true := by kernel_rfl
@[go_sem] theorem tab356 : tStr Try.prog 125 = false := by kernel_rfl
@[go_sem] theorem tab357 : tField Try.prog 125 0 = some (0, 3) := by kernel_rfl
@[go_sem] theorem tab358 : tField Try.prog 125 1 = some (1, 9) := by kernel_rfl
@[go_sem] theorem tab359 : tField Try.prog 125 2 = some (2, 94) := by kernel_rfl
@[go_sem] theorem tab360 : tFields Try.prog 125 = true := by kernel_rfl
@[go_sem] theorem tab361 : tSize Try.prog 126 = some 3 := by kernel_rfl
@[go_sem] theorem tab362 : tAgg Try.prog 126 = some true := by kernel_rfl
@[go_sem] theorem tab363 : tZero Try.prog 126 = some [.t (.int .i64 0), .t (.str ⟨#[]⟩), .nil0] := by kernel_rfl
@[go_sem] theorem tab364 : tBytes Try.prog 126 = some 48 := by kernel_rfl
@[go_sem] theorem tab365 : (Program.underlying Try.prog 126).isSome = true := by kernel_rfl
@[go_sem] theorem tab366 : tStr Try.prog 126 = false := by kernel_rfl
@[go_sem] theorem tab367 : tField Try.prog 126 0 = some (0, 3) := by kernel_rfl
@[go_sem] theorem tab368 : tField Try.prog 126 1 = some (1, 9) := by kernel_rfl
@[go_sem] theorem tab369 : tField Try.prog 126 2 = some (2, 94) := by kernel_rfl
@[go_sem] theorem tab370 : tFields Try.prog 126 = true := by kernel_rfl
@[go_sem] theorem tab371 : tSize Try.prog 127 = some 1 := by kernel_rfl
@[go_sem] theorem tab372 : tAgg Try.prog 127 = some false := by kernel_rfl
@[go_sem] theorem tab373 : tZero Try.prog 127 = some [.nil0] := by kernel_rfl
@[go_sem] theorem tab374 : tBytes Try.prog 127 = some 24 := by kernel_rfl
@[go_sem] theorem tab375 : (Program.underlying Try.prog 127).isSome = true := by kernel_rfl
@[go_sem] theorem tab376 : tElem Try.prog 127 = some 94 := by kernel_rfl
@[go_sem] theorem tab377 : tStr Try.prog 127 = false := by kernel_rfl
@[go_sem] theorem tab378 : tSize Try.prog 128 = some 2 := by kernel_rfl
@[go_sem] theorem tab379 : tAgg Try.prog 128 = some true := by kernel_rfl
@[go_sem] theorem tab380 : tZero Try.prog 128 = some [.nil0, .nil0] := by kernel_rfl
@[go_sem] theorem tab381 : tBytes Try.prog 128 = some 48 := by kernel_rfl
@[go_sem] theorem tab382 : (Program.underlying Try.prog 128).isSome = true := by kernel_rfl
@[go_sem] theorem tab383 : tStr Try.prog 128 = false := by kernel_rfl
@[go_sem] theorem tab384 : tField Try.prog 128 0 = some (0, 35) := by kernel_rfl
@[go_sem] theorem tab385 : tField Try.prog 128 1 = some (1, 127) := by kernel_rfl
@[go_sem] theorem tab386 : tFields Try.prog 128 = true := by kernel_rfl
@[go_sem] theorem tab387 : tSize Try.prog 129 = some 2 := by kernel_rfl
@[go_sem] theorem tab388 : tAgg Try.prog 129 = some true := by kernel_rfl
@[go_sem] theorem tab389 : tZero Try.prog 129 = some [.nil0, .nil0] := by kernel_rfl
@[go_sem] theorem tab390 : tBytes Try.prog 129 = some 48 := by kernel_rfl
@[go_sem] theorem tab391 : (Program.underlying Try.prog 129).isSome = true := by kernel_rfl
@[go_sem] theorem tab392 : tStr Try.prog 129 = false := by kernel_rfl
@[go_sem] theorem tab393 : tField Try.prog 129 0 = some (0, 35) := by kernel_rfl
@[go_sem] theorem tab394 : tField Try.prog 129 1 = some (1, 127) := by kernel_rfl
@[go_sem] theorem tab395 : tFields Try.prog 129 = true := by kernel_rfl
@[go_sem] theorem tab396 : tSize Try.prog 132 = some 7 := by kernel_rfl
@[go_sem] theorem tab397 : tAgg Try.prog 132 = some true := by kernel_rfl
@[go_sem] theorem tab398 : tZero Try.prog 132 = some [.t (.str ⟨#[]⟩), .t (.str ⟨#[]⟩), .nil0, .nil0, .t (.int .i64 0), .t (.str ⟨#[]⟩), .nil0] := by kernel_rfl
@[go_sem] theorem tab399 : tBytes Try.prog 132 = some 128 := by kernel_rfl
@[go_sem] theorem tab400 : (Program.underlying Try.prog 132).isSome = true := by kernel_rfl
@[go_sem] theorem tab401 : tStr Try.prog 132 = false := by kernel_rfl
@[go_sem] theorem tab402 : tField Try.prog 132 0 = some (0, 9) := by kernel_rfl
@[go_sem] theorem tab403 : tField Try.prog 132 1 = some (1, 9) := by kernel_rfl
@[go_sem] theorem tab404 : tField Try.prog 132 2 = some (2, 22) := by kernel_rfl
@[go_sem] theorem tab405 : tField Try.prog 132 3 = some (3, 22) := by kernel_rfl
@[go_sem] theorem tab406 : tField Try.prog 132 4 = some (4, 32) := by kernel_rfl
@[go_sem] theorem tab407 : tFields Try.prog 132 = true := by kernel_rfl
@[go_sem] theorem tab408 : tSize Try.prog 133 = some 7 := by kernel_rfl
@[go_sem] theorem tab409 : tAgg Try.prog 133 = some true := by kernel_rfl
@[go_sem] theorem tab410 : tZero Try.prog 133 = some [.t (.str ⟨#[]⟩), .t (.str ⟨#[]⟩), .nil0, .nil0, .t (.int .i64 0), .t (.str ⟨#[]⟩), .nil0] := by kernel_rfl
@[go_sem] theorem tab411 : tBytes Try.prog 133 = some 128 := by kernel_rfl
@[go_sem] theorem tab412 : (Program.underlying Try.prog 133).isSome = true := by kernel_rfl
@[go_sem] theorem tab413 : tStr Try.prog 133 = false := by kernel_rfl
@[go_sem] theorem tab414 : tField Try.prog 133 0 = some (0, 9) := by kernel_rfl
@[go_sem] theorem tab415 : tField Try.prog 133 1 = some (1, 9) := by kernel_rfl
@[go_sem] theorem tab416 : tField Try.prog 133 2 = some (2, 22) := by kernel_rfl
@[go_sem] theorem tab417 : tField Try.prog 133 3 = some (3, 22) := by kernel_rfl
@[go_sem] theorem tab418 : tField Try.prog 133 4 = some (4, 32) := by kernel_rfl
@[go_sem] theorem tab419 : tFields Try.prog 133 = true := by kernel_rfl
@[go_sem] theorem tab420 : tSize Try.prog 136 = some 7 := by kernel_rfl
@[go_sem] theorem tab421 : tAgg Try.prog 136 = some true := by kernel_rfl
@[go_sem] theorem tab422 : tZero Try.prog 136 = some [.t (.str ⟨#[]⟩), .t (.str ⟨#[]⟩), .nil0, .nil0, .t (.int .i64 0), .t (.str ⟨#[]⟩), .nil0] := by kernel_rfl
@[go_sem] theorem tab423 : tBytes Try.prog 136 = some 128 := by kernel_rfl
@[go_sem] theorem tab424 : (Program.underlying Try.prog 136).isSome = true := by kernel_rfl
@[go_sem] theorem tab425 : tStr Try.prog 136 = false := by kernel_rfl
@[go_sem] theorem tab426 : tField Try.prog 136 0 = some (0, 9) := by kernel_rfl
@[go_sem] theorem tab427 : tField Try.prog 136 1 = some (1, 9) := by kernel_rfl
@[go_sem] theorem tab428 : tField Try.prog 136 2 = some (2, 22) := by kernel_rfl
@[go_sem] theorem tab429 : tField Try.prog 136 3 = some (3, 22) := by kernel_rfl
@[go_sem] theorem tab430 : tField Try.prog 136 4 = some (4, 37) := by kernel_rfl
@[go_sem] theorem tab431 : tFields Try.prog 136 = true := by kernel_rfl
@[go_sem] theorem tab432 : tSize Try.prog 137 = some 7 := by kernel_rfl
@[go_sem] theorem tab433 : tAgg Try.prog 137 = some true := by kernel_rfl
@[go_sem] theorem tab434 : tZero Try.prog 137 = some [.t (.str ⟨#[]⟩), .t (.str ⟨#[]⟩), .nil0, .nil0, .t (.int .i64 0), .t (.str ⟨#[]⟩), .nil0] := by kernel_rfl
@[go_sem] theorem tab435 : tBytes Try.prog 137 = some 128 := by kernel_rfl
@[go_sem] theorem tab436 : (Program.underlying Try.prog 137).isSome = true := by kernel_rfl
@[go_sem] theorem tab437 : tStr Try.prog 137 = false := by kernel_rfl
@[go_sem] theorem tab438 : tField Try.prog 137 0 = some (0, 9) := by kernel_rfl
@[go_sem] theorem tab439 : tField Try.prog 137 1 = some (1, 9) := by kernel_rfl
@[go_sem] theorem tab440 : tField Try.prog 137 2 = some (2, 22) := by kernel_rfl
@[go_sem] theorem tab441 : tField Try.prog 137 3 = some (3, 22) := by kernel_rfl
@[go_sem] theorem tab442 : tField Try.prog 137 4 = some (4, 37) := by kernel_rfl
@[go_sem] theorem tab443 : tFields Try.prog 137 = true := by kernel_rfl
@[go_sem] theorem tab444 : tSize Try.prog 164 = some 1 := by kernel_rfl
@[go_sem] theorem tab445 : tAgg Try.prog 164 = some false := by kernel_rfl
@[go_sem] theorem tab446 : tZero Try.prog 164 = some [.t (.int .u32 0)] := by kernel_rfl
@[go_sem] theorem tab447 : tBytes Try.prog 164 = some 4 := by kernel_rfl
@[go_sem] theorem tab448 : (Program.underlying Try.prog 164).isSome = true := by kernel_rfl
@[go_sem] theorem tab449 : tStr Try.prog 164 = false := by kernel_rfl
@[go_sem] theorem tab450 : tElem Try.prog 164 = none := by kernel_rfl
@[go_sem] theorem tab451 : tInt Try.prog 164 = some .u32 := by kernel_rfl
@[go_sem] theorem tab452 : tSize Try.prog 165 = some 1 := by kernel_rfl
@[go_sem] theorem tab453 : tAgg Try.prog 165 = some false := by kernel_rfl
@[go_sem] theorem tab454 : tZero Try.prog 165 = some [.t (.int .u8 0)] := by kernel_rfl
@[go_sem] theorem tab455 : tBytes Try.prog 165 = some 1 := by kernel_rfl
@[go_sem] theorem tab456 : (Program.underlying Try.prog 165).isSome = true := by kernel_rfl
@[go_sem] theorem tab457 : tStr Try.prog 165 = false := by kernel_rfl
@[go_sem] theorem tab458 : tElem Try.prog 165 = none := by kernel_rfl
@[go_sem] theorem tab459 : tInt Try.prog 165 = some .u8 := by kernel_rfl
@[go_sem] theorem tab460 : tSize Try.prog 166 = some 1 := by kernel_rfl
@[go_sem] theorem tab461 : tAgg Try.prog 166 = some false := by kernel_rfl
@[go_sem] theorem tab462 : tZero Try.prog 166 = some [.t (.int .u8 0)] := by kernel_rfl
@[go_sem] theorem tab463 : tBytes Try.prog 166 = some 1 := by kernel_rfl
@[go_sem] theorem tab464 : (Program.underlying Try.prog 166).isSome = true := by kernel_rfl
@[go_sem] theorem tab465 : tStr Try.prog 166 = false := by kernel_rfl
@[go_sem] theorem tab466 : tElem Try.prog 166 = none := by kernel_rfl
@[go_sem] theorem tab467 : tInt Try.prog 166 = some .u8 := by kernel_rfl
@[go_sem] theorem tab468 : tSize Try.prog 168 = some 1 := by kernel_rfl
@[go_sem] theorem tab469 : tAgg Try.prog 168 = some false := by kernel_rfl
@[go_sem] theorem tab470 : tZero Try.prog 168 = some [.t (.int .i32 0)] := by kernel_rfl
@[go_sem] theorem tab471 : tBytes Try.prog 168 = some 4 := by kernel_rfl
@[go_sem] theorem tab472 : (Program.underlying Try.prog 168).isSome = true := by kernel_rfl
@[go_sem] theorem tab473 : tStr Try.prog 168 = false := by kernel_rfl
@[go_sem] theorem tab474 : tElem Try.prog 168 = none := by kernel_rfl
@[go_sem] theorem tab475 : tInt Try.prog 168 = some .i32 := by kernel_rfl
@[go_sem] theorem tab476 : tSize Try.prog 169 = some 1 := by kernel_rfl
@[go_sem] theorem tab477 : tAgg Try.prog 169 = some false := by kernel_rfl
@[go_sem] theorem tab478 : tZero Try.prog 169 = some [.t (.int .i32 0)] := by kernel_rfl
@[go_sem] theorem tab479 : tBytes Try.prog 169 = some 4 := by kernel_rfl
@[go_sem] theorem tab480 : (Program.underlying Try.prog 169).isSome = true := by kernel_rfl
@[go_sem] theorem tab481 : tStr Try.prog 169 = false := by kernel_rfl
@[go_sem] theorem tab482 : tElem Try.prog 169 = none := by kernel_rfl
@[go_sem] theorem tab483 : tInt Try.prog 169 = some .i32 := by kernel_rfl
end Go.Proofs.Ytlooiifgbiedeaa
