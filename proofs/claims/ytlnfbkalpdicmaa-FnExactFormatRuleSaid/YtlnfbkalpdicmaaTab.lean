/- Facts on the seat's types, for walks by rewriting. -/
import Derived.Test.YtlnfbkalpdicmaaProg
import Derived.Test.YtlnfbkalpdicmaaV28
import Derived.KernelRfl
namespace Go.Proofs.Ytlnfbkalpdicmaa
open Go Go.VL
theorem mixed : Try.prog.follows .mixedOrders = true := by kernel_rfl
@[go_sem] theorem tab0 : tSize Try.prog 2 = some 1 := by kernel_rfl
@[go_sem] theorem tab1 : tAgg Try.prog 2 = some false := by kernel_rfl
@[go_sem] theorem tab2 : tZero Try.prog 2 = some [.t (.int .i64 0)] := by kernel_rfl
@[go_sem] theorem tab3 : tBytes Try.prog 2 = some 8 := by kernel_rfl
@[go_sem] theorem tab4 : (Program.underlying Try.prog 2).isSome = true := by kernel_rfl
@[go_sem] theorem tab5 : tStr Try.prog 2 = false := by kernel_rfl
@[go_sem] theorem tab6 : tElem Try.prog 2 = none := by kernel_rfl
@[go_sem] theorem tab7 : tInt Try.prog 2 = some .i64 := by kernel_rfl
@[go_sem] theorem tab8 : tSize Try.prog 3 = some 1 := by kernel_rfl
@[go_sem] theorem tab9 : tAgg Try.prog 3 = some false := by kernel_rfl
@[go_sem] theorem tab10 : tZero Try.prog 3 = some [.t (.int .i64 0)] := by kernel_rfl
@[go_sem] theorem tab11 : tBytes Try.prog 3 = some 8 := by kernel_rfl
@[go_sem] theorem tab12 : (Program.underlying Try.prog 3).isSome = true := by kernel_rfl
@[go_sem] theorem tab13 : tStr Try.prog 3 = false := by kernel_rfl
@[go_sem] theorem tab14 : tElem Try.prog 3 = none := by kernel_rfl
@[go_sem] theorem tab15 : tInt Try.prog 3 = some .i64 := by kernel_rfl
@[go_sem] theorem tab16 : tSize Try.prog 4 = some 1 := by kernel_rfl
@[go_sem] theorem tab17 : tAgg Try.prog 4 = some false := by kernel_rfl
@[go_sem] theorem tab18 : tZero Try.prog 4 = some [.t (.bool false)] := by kernel_rfl
@[go_sem] theorem tab19 : tBytes Try.prog 4 = some 1 := by kernel_rfl
@[go_sem] theorem tab20 : (Program.underlying Try.prog 4).isSome = true := by kernel_rfl
@[go_sem] theorem tab21 : tStr Try.prog 4 = false := by kernel_rfl
@[go_sem] theorem tab22 : tBool Try.prog 4 = true := by kernel_rfl
@[go_sem] theorem tab23 : tSize Try.prog 5 = some 1 := by kernel_rfl
@[go_sem] theorem tab24 : tAgg Try.prog 5 = some false := by kernel_rfl
@[go_sem] theorem tab25 : tZero Try.prog 5 = some [.t (.int .u8 0)] := by kernel_rfl
@[go_sem] theorem tab26 : tBytes Try.prog 5 = some 1 := by kernel_rfl
@[go_sem] theorem tab27 : (Program.underlying Try.prog 5).isSome = true := by kernel_rfl
@[go_sem] theorem tab28 : tStr Try.prog 5 = false := by kernel_rfl
@[go_sem] theorem tab29 : tElem Try.prog 5 = none := by kernel_rfl
@[go_sem] theorem tab30 : tInt Try.prog 5 = some .u8 := by kernel_rfl
@[go_sem] theorem tab31 : tSize Try.prog 6 = some 1 := by kernel_rfl
@[go_sem] theorem tab32 : tAgg Try.prog 6 = some false := by kernel_rfl
@[go_sem] theorem tab33 : tZero Try.prog 6 = some [.t (.int .u8 0)] := by kernel_rfl
@[go_sem] theorem tab34 : tBytes Try.prog 6 = some 1 := by kernel_rfl
@[go_sem] theorem tab35 : (Program.underlying Try.prog 6).isSome = true := by kernel_rfl
@[go_sem] theorem tab36 : tStr Try.prog 6 = false := by kernel_rfl
@[go_sem] theorem tab37 : tElem Try.prog 6 = none := by kernel_rfl
@[go_sem] theorem tab38 : tInt Try.prog 6 = some .u8 := by kernel_rfl
@[go_sem] theorem tab39 : tSize Try.prog 7 = some 4 := by kernel_rfl
@[go_sem] theorem tab40 : tAgg Try.prog 7 = some true := by kernel_rfl
@[go_sem] theorem tab41 : tZero Try.prog 7 = some [.t (.int .i64 0), .t (.int .i64 0), .t (.bool false), .t (.int .u8 0)] := by kernel_rfl
@[go_sem] theorem tab42 : tBytes Try.prog 7 = some 24 := by kernel_rfl
@[go_sem] theorem tab43 : (Program.underlying Try.prog 7).isSome = true := by kernel_rfl
@[go_sem] theorem tab44 : tStr Try.prog 7 = false := by kernel_rfl
@[go_sem] theorem tab45 : tField Try.prog 7 0 = some (0, 2) := by kernel_rfl
@[go_sem] theorem tab46 : tField Try.prog 7 1 = some (1, 3) := by kernel_rfl
@[go_sem] theorem tab47 : tField Try.prog 7 2 = some (2, 4) := by kernel_rfl
@[go_sem] theorem tab48 : tField Try.prog 7 3 = some (3, 6) := by kernel_rfl
@[go_sem] theorem tab49 : tFields Try.prog 7 = true := by kernel_rfl
@[go_sem] theorem tab50 : tSize Try.prog 8 = some 4 := by kernel_rfl
@[go_sem] theorem tab51 : tAgg Try.prog 8 = some true := by kernel_rfl
@[go_sem] theorem tab52 : tZero Try.prog 8 = some [.t (.int .i64 0), .t (.int .i64 0), .t (.bool false), .t (.int .u8 0)] := by kernel_rfl
@[go_sem] theorem tab53 : tBytes Try.prog 8 = some 24 := by kernel_rfl
@[go_sem] theorem tab54 : (Program.underlying Try.prog 8).isSome = true := by kernel_rfl
@[go_sem] theorem tab55 : tStr Try.prog 8 = false := by kernel_rfl
@[go_sem] theorem tab56 : tField Try.prog 8 0 = some (0, 2) := by kernel_rfl
@[go_sem] theorem tab57 : tField Try.prog 8 1 = some (1, 3) := by kernel_rfl
@[go_sem] theorem tab58 : tField Try.prog 8 2 = some (2, 4) := by kernel_rfl
@[go_sem] theorem tab59 : tField Try.prog 8 3 = some (3, 6) := by kernel_rfl
@[go_sem] theorem tab60 : tFields Try.prog 8 = true := by kernel_rfl
@[go_sem] theorem tab61 : tSize Try.prog 9 = some 1 := by kernel_rfl
@[go_sem] theorem tab62 : tAgg Try.prog 9 = some false := by kernel_rfl
@[go_sem] theorem tab63 : tZero Try.prog 9 = some [.t (.str ⟨#[]⟩)] := by kernel_rfl
@[go_sem] theorem tab64 : tBytes Try.prog 9 = some 16 := by kernel_rfl
@[go_sem] theorem tab65 : (Program.underlying Try.prog 9).isSome = true := by kernel_rfl
@[go_sem] theorem tab66 : tStr Try.prog 9 = true := by kernel_rfl
@[go_sem] theorem tab67 : tElem Try.prog 9 = none := by kernel_rfl
@[go_sem] theorem tab68 : tSize Try.prog 10 = some 1 := by kernel_rfl
@[go_sem] theorem tab69 : tAgg Try.prog 10 = some false := by kernel_rfl
@[go_sem] theorem tab70 : tZero Try.prog 10 = some [.t (.str ⟨#[]⟩)] := by kernel_rfl
@[go_sem] theorem tab71 : tBytes Try.prog 10 = some 16 := by kernel_rfl
@[go_sem] theorem tab72 : (Program.underlying Try.prog 10).isSome = true := by kernel_rfl
@[go_sem] theorem tab73 : tStr Try.prog 10 = true := by kernel_rfl
@[go_sem] theorem tab74 : tElem Try.prog 10 = none := by kernel_rfl
@[go_sem] theorem tab75 : tSize Try.prog 11 = some 1 := by kernel_rfl
@[go_sem] theorem tab76 : tAgg Try.prog 11 = some false := by kernel_rfl
@[go_sem] theorem tab77 : tZero Try.prog 11 = some [.t (.str ⟨#[]⟩)] := by kernel_rfl
@[go_sem] theorem tab78 : tBytes Try.prog 11 = some 16 := by kernel_rfl
@[go_sem] theorem tab79 : (Program.underlying Try.prog 11).isSome = true := by kernel_rfl
@[go_sem] theorem tab80 : tStr Try.prog 11 = true := by kernel_rfl
@[go_sem] theorem tab81 : tElem Try.prog 11 = none := by kernel_rfl
@[go_sem] theorem tab82 : tSize Try.prog 12 = some 1 := by kernel_rfl
@[go_sem] theorem tab83 : tAgg Try.prog 12 = some false := by kernel_rfl
@[go_sem] theorem tab84 : tZero Try.prog 12 = some [.t (.int .u64 0)] := by kernel_rfl
@[go_sem] theorem tab85 : tBytes Try.prog 12 = some 8 := by kernel_rfl
@[go_sem] theorem tab86 : (Program.underlying Try.prog 12).isSome = true := by kernel_rfl
@[go_sem] theorem tab87 : tStr Try.prog 12 = false := by kernel_rfl
@[go_sem] theorem tab88 : tElem Try.prog 12 = none := by kernel_rfl
@[go_sem] theorem tab89 : tInt Try.prog 12 = some .u64 := by kernel_rfl
@[go_sem] theorem tab90 : tSize Try.prog 13 = some 2 := by kernel_rfl
@[go_sem] theorem tab91 : tAgg Try.prog 13 = some true := by kernel_rfl
@[go_sem] theorem tab92 : tZero Try.prog 13 = some [.t (.str ⟨#[]⟩), .t (.int .u64 0)] := by kernel_rfl
@[go_sem] theorem tab93 : tBytes Try.prog 13 = some 24 := by kernel_rfl
@[go_sem] theorem tab94 : (Program.underlying Try.prog 13).isSome = true := by kernel_rfl
@[go_sem] theorem tab95 : tStr Try.prog 13 = false := by kernel_rfl
@[go_sem] theorem tab96 : tField Try.prog 13 0 = some (0, 9) := by kernel_rfl
@[go_sem] theorem tab97 : tField Try.prog 13 1 = some (1, 12) := by kernel_rfl
@[go_sem] theorem tab98 : tFields Try.prog 13 = true := by kernel_rfl
@[go_sem] theorem tab99 : tSize Try.prog 14 = some 2 := by kernel_rfl
@[go_sem] theorem tab100 : tAgg Try.prog 14 = some true := by kernel_rfl
@[go_sem] theorem tab101 : tZero Try.prog 14 = some [.t (.str ⟨#[]⟩), .t (.int .u64 0)] := by kernel_rfl
@[go_sem] theorem tab102 : tBytes Try.prog 14 = some 24 := by kernel_rfl
@[go_sem] theorem tab103 : (Program.underlying Try.prog 14).isSome = true := by kernel_rfl
@[go_sem] theorem tab104 : tStr Try.prog 14 = false := by kernel_rfl
@[go_sem] theorem tab105 : tField Try.prog 14 0 = some (0, 9) := by kernel_rfl
@[go_sem] theorem tab106 : tField Try.prog 14 1 = some (1, 12) := by kernel_rfl
@[go_sem] theorem tab107 : tFields Try.prog 14 = true := by kernel_rfl
@[go_sem] theorem tab108 : tSize Try.prog 20 = some 1 := by kernel_rfl
@[go_sem] theorem tab109 : tAgg Try.prog 20 = some false := by kernel_rfl
@[go_sem] theorem tab110 : tBytes Try.prog 20 = some 16 := by kernel_rfl
@[go_sem] theorem tab111 : (Program.underlying Try.prog 20).isSome = true := by kernel_rfl
@[go_sem] theorem tab112 : tStr Try.prog 20 = false := by kernel_rfl
@[go_sem] theorem tab113 : tIface Try.prog 20 = true := by kernel_rfl
@[go_sem] theorem tab114 : tSize Try.prog 21 = some 1 := by kernel_rfl
@[go_sem] theorem tab115 : tAgg Try.prog 21 = some false := by kernel_rfl
@[go_sem] theorem tab116 : tZero Try.prog 21 = some [.t (.int .i32 0)] := by kernel_rfl
@[go_sem] theorem tab117 : tBytes Try.prog 21 = some 4 := by kernel_rfl
@[go_sem] theorem tab118 : (Program.underlying Try.prog 21).isSome = true := by kernel_rfl
@[go_sem] theorem tab119 : tStr Try.prog 21 = false := by kernel_rfl
@[go_sem] theorem tab120 : tElem Try.prog 21 = none := by kernel_rfl
@[go_sem] theorem tab121 : tInt Try.prog 21 = some .i32 := by kernel_rfl
@[go_sem] theorem tab122 : tSize Try.prog 22 = some 1 := by kernel_rfl
@[go_sem] theorem tab123 : tAgg Try.prog 22 = some false := by kernel_rfl
@[go_sem] theorem tab124 : tZero Try.prog 22 = some [.nil0] := by kernel_rfl
@[go_sem] theorem tab125 : tBytes Try.prog 22 = some 24 := by kernel_rfl
@[go_sem] theorem tab126 : (Program.underlying Try.prog 22).isSome = true := by kernel_rfl
@[go_sem] theorem tab127 : tElem Try.prog 22 = some 75 := by kernel_rfl
@[go_sem] theorem tab128 : tStr Try.prog 22 = false := by kernel_rfl
@[go_sem] theorem tab129 : tSize Try.prog 25 = some 1 := by kernel_rfl
@[go_sem] theorem tab130 : tAgg Try.prog 25 = some false := by kernel_rfl
@[go_sem] theorem tab131 : tZero Try.prog 25 = some [.nil0] := by kernel_rfl
@[go_sem] theorem tab132 : tBytes Try.prog 25 = some 24 := by kernel_rfl
@[go_sem] theorem tab133 : (Program.underlying Try.prog 25).isSome = true := by kernel_rfl
@[go_sem] theorem tab134 : tElem Try.prog 25 = some 77 := by kernel_rfl
@[go_sem] theorem tab135 : tStr Try.prog 25 = false := by kernel_rfl
@[go_sem] theorem tab136 : tSize Try.prog 28 = some 1 := by kernel_rfl
@[go_sem] theorem tab137 : tAgg Try.prog 28 = some false := by kernel_rfl
@[go_sem] theorem tab138 : tZero Try.prog 28 = some [.nil0] := by kernel_rfl
@[go_sem] theorem tab139 : tBytes Try.prog 28 = some 24 := by kernel_rfl
@[go_sem] theorem tab140 : (Program.underlying Try.prog 28).isSome = true := by kernel_rfl
@[go_sem] theorem tab141 : tElem Try.prog 28 = some 65 := by kernel_rfl
@[go_sem] theorem tab142 : tStr Try.prog 28 = false := by kernel_rfl
@[go_sem] theorem tab143 : tSize Try.prog 29 = some 1 := by kernel_rfl
@[go_sem] theorem tab144 : tAgg Try.prog 29 = some true := by kernel_rfl
@[go_sem] theorem tab145 : tZero Try.prog 29 = some [.nil0] := by kernel_rfl
@[go_sem] theorem tab146 : tBytes Try.prog 29 = some 24 := by kernel_rfl
@[go_sem] theorem tab147 : (Program.underlying Try.prog 29).isSome = true := by kernel_rfl
@[go_sem] theorem tab148 : tStr Try.prog 29 = false := by kernel_rfl
@[go_sem] theorem tab149 : tField Try.prog 29 0 = some (0, 28) := by kernel_rfl
@[go_sem] theorem tab150 : tFields Try.prog 29 = true := by kernel_rfl
@[go_sem] theorem tab151 : tSize Try.prog 30 = some 1 := by kernel_rfl
@[go_sem] theorem tab152 : tAgg Try.prog 30 = some true := by kernel_rfl
@[go_sem] theorem tab153 : tZero Try.prog 30 = some [.nil0] := by kernel_rfl
@[go_sem] theorem tab154 : tBytes Try.prog 30 = some 24 := by kernel_rfl
@[go_sem] theorem tab155 : (Program.underlying Try.prog 30).isSome = true := by kernel_rfl
@[go_sem] theorem tab156 : tStr Try.prog 30 = false := by kernel_rfl
@[go_sem] theorem tab157 : tField Try.prog 30 0 = some (0, 28) := by kernel_rfl
@[go_sem] theorem tab158 : tFields Try.prog 30 = true := by kernel_rfl
@[go_sem] theorem tab159 : tSize Try.prog 33 = some 1 := by kernel_rfl
@[go_sem] theorem tab160 : tAgg Try.prog 33 = some false := by kernel_rfl
@[go_sem] theorem tab161 : tZero Try.prog 33 = some [.nil0] := by kernel_rfl
@[go_sem] theorem tab162 : tBytes Try.prog 33 = some 24 := by kernel_rfl
@[go_sem] theorem tab163 : (Program.underlying Try.prog 33).isSome = true := by kernel_rfl
@[go_sem] theorem tab164 : tElem Try.prog 33 = some 69 := by kernel_rfl
@[go_sem] theorem tab165 : tStr Try.prog 33 = false := by kernel_rfl
@[go_sem] theorem tab166 : tSize Try.prog 34 = some 1 := by kernel_rfl
@[go_sem] theorem tab167 : tAgg Try.prog 34 = some true := by kernel_rfl
@[go_sem] theorem tab168 : tZero Try.prog 34 = some [.nil0] := by kernel_rfl
@[go_sem] theorem tab169 : tBytes Try.prog 34 = some 24 := by kernel_rfl
@[go_sem] theorem tab170 : (Program.underlying Try.prog 34).isSome = true := by kernel_rfl
@[go_sem] theorem tab171 : tStr Try.prog 34 = false := by kernel_rfl
@[go_sem] theorem tab172 : tField Try.prog 34 0 = some (0, 33) := by kernel_rfl
@[go_sem] theorem tab173 : tFields Try.prog 34 = true := by kernel_rfl
@[go_sem] theorem tab174 : tSize Try.prog 35 = some 1 := by kernel_rfl
@[go_sem] theorem tab175 : tAgg Try.prog 35 = some true := by kernel_rfl
@[go_sem] theorem tab176 : tZero Try.prog 35 = some [.nil0] := by kernel_rfl
@[go_sem] theorem tab177 : tBytes Try.prog 35 = some 24 := by kernel_rfl
@[go_sem] theorem tab178 : (Program.underlying Try.prog 35).isSome = true := by kernel_rfl
@[go_sem] theorem tab179 : tStr Try.prog 35 = false := by kernel_rfl
@[go_sem] theorem tab180 : tField Try.prog 35 0 = some (0, 33) := by kernel_rfl
@[go_sem] theorem tab181 : tFields Try.prog 35 = true := by kernel_rfl
@[go_sem] theorem tab182 : tSize Try.prog 40 = some 1 := by kernel_rfl
@[go_sem] theorem tab183 : tAgg Try.prog 40 = some false := by kernel_rfl
@[go_sem] theorem tab184 : tZero Try.prog 40 = some [.nil0] := by kernel_rfl
@[go_sem] theorem tab185 : tBytes Try.prog 40 = some 24 := by kernel_rfl
@[go_sem] theorem tab186 : (Program.underlying Try.prog 40).isSome = true := by kernel_rfl
@[go_sem] theorem tab187 : tElem Try.prog 40 = some 42 := by kernel_rfl
@[go_sem] theorem tab188 : tStr Try.prog 40 = false := by kernel_rfl
@[go_sem] theorem tab189 : tSize Try.prog 41 = some 3 := by kernel_rfl
@[go_sem] theorem tab190 : tAgg Try.prog 41 = some true := by kernel_rfl
@[go_sem] theorem tab191 : tZero Try.prog 41 = some [.t (.int .i64 0), .t (.str ⟨#[]⟩), .nil0] := by kernel_rfl
@[go_sem] theorem tab192 : tBytes Try.prog 41 = some 48 := by kernel_rfl
@[go_sem] theorem tab193 : (Program.underlying Try.prog 41).isSome = true := by kernel_rfl
@[go_sem] theorem tab194 : tStr Try.prog 41 = false := by kernel_rfl
@[go_sem] theorem tab195 : tField Try.prog 41 0 = some (0, 3) := by kernel_rfl
@[go_sem] theorem tab196 : tField Try.prog 41 1 = some (1, 9) := by kernel_rfl
@[go_sem] theorem tab197 : tField Try.prog 41 2 = some (2, 40) := by kernel_rfl
@[go_sem] theorem tab198 : tFields Try.prog 41 = true := by kernel_rfl
@[go_sem] theorem tab199 : tSize Try.prog 42 = some 3 := by kernel_rfl
@[go_sem] theorem tab200 : tAgg Try.prog 42 = some true := by kernel_rfl
@[go_sem] theorem tab201 : tZero Try.prog 42 = some [.t (.int .i64 0), .t (.str ⟨#[]⟩), .nil0] := by kernel_rfl
@[go_sem] theorem tab202 : tBytes Try.prog 42 = some 48 := by kernel_rfl
@[go_sem] theorem tab203 : (Program.underlying Try.prog 42).isSome = true := by kernel_rfl
@[go_sem] theorem tab204 : tStr Try.prog 42 = false := by kernel_rfl
@[go_sem] theorem tab205 : tField Try.prog 42 0 = some (0, 3) := by kernel_rfl
@[go_sem] theorem tab206 : tField Try.prog 42 1 = some (1, 9) := by kernel_rfl
@[go_sem] theorem tab207 : tField Try.prog 42 2 = some (2, 40) := by kernel_rfl
@[go_sem] theorem tab208 : tFields Try.prog 42 = true := by kernel_rfl
@[go_sem] theorem tab209 : tSize Try.prog 43 = some 1 := by kernel_rfl
@[go_sem] theorem tab210 : tAgg Try.prog 43 = some false := by kernel_rfl
@[go_sem] theorem tab211 : tZero Try.prog 43 = some [.nil0] := by kernel_rfl
@[go_sem] theorem tab212 : tBytes Try.prog 43 = some 24 := by kernel_rfl
@[go_sem] theorem tab213 : (Program.underlying Try.prog 43).isSome = true := by kernel_rfl
@[go_sem] theorem tab214 : tElem Try.prog 43 = some 90 := by kernel_rfl
@[go_sem] theorem tab215 : tStr Try.prog 43 = false := by kernel_rfl
@[go_sem] theorem tab216 : tSize Try.prog 46 = some 1 := by kernel_rfl
@[go_sem] theorem tab217 : tAgg Try.prog 46 = some false := by kernel_rfl
@[go_sem] theorem tab218 : tZero Try.prog 46 = some [.nil0] := by kernel_rfl
@[go_sem] theorem tab219 : tBytes Try.prog 46 = some 24 := by kernel_rfl
@[go_sem] theorem tab220 : (Program.underlying Try.prog 46).isSome = true := by kernel_rfl
@[go_sem] theorem tab221 : tElem Try.prog 46 = some 48 := by kernel_rfl
@[go_sem] theorem tab222 : tStr Try.prog 46 = false := by kernel_rfl
@[go_sem] theorem tab223 : tSize Try.prog 47 = some 3 := by kernel_rfl
@[go_sem] theorem tab224 : tAgg Try.prog 47 = some true := by kernel_rfl
@[go_sem] theorem tab225 : tZero Try.prog 47 = some [.t (.int .i64 0), .t (.str ⟨#[]⟩), .nil0] := by kernel_rfl
@[go_sem] theorem tab226 : tBytes Try.prog 47 = some 48 := by kernel_rfl
@[go_sem] theorem tab227 : (Program.underlying Try.prog 47).isSome = true := by kernel_rfl
@[go_sem] theorem tab228 : tStr Try.prog 47 = false := by kernel_rfl
@[go_sem] theorem tab229 : tField Try.prog 47 0 = some (0, 3) := by kernel_rfl
@[go_sem] theorem tab230 : tField Try.prog 47 1 = some (1, 9) := by kernel_rfl
@[go_sem] theorem tab231 : tField Try.prog 47 2 = some (2, 46) := by kernel_rfl
@[go_sem] theorem tab232 : tFields Try.prog 47 = true := by kernel_rfl
@[go_sem] theorem tab233 : tSize Try.prog 48 = some 3 := by kernel_rfl
@[go_sem] theorem tab234 : tAgg Try.prog 48 = some true := by kernel_rfl
@[go_sem] theorem tab235 : tZero Try.prog 48 = some [.t (.int .i64 0), .t (.str ⟨#[]⟩), .nil0] := by kernel_rfl
@[go_sem] theorem tab236 : tBytes Try.prog 48 = some 48 := by kernel_rfl
@[go_sem] theorem tab237 : (Program.underlying Try.prog 48).isSome = true := by kernel_rfl
@[go_sem] theorem tab238 : tStr Try.prog 48 = false := by kernel_rfl
@[go_sem] theorem tab239 : tField Try.prog 48 0 = some (0, 3) := by kernel_rfl
@[go_sem] theorem tab240 : tField Try.prog 48 1 = some (1, 9) := by kernel_rfl
@[go_sem] theorem tab241 : tField Try.prog 48 2 = some (2, 46) := by kernel_rfl
@[go_sem] theorem tab242 : tFields Try.prog 48 = true := by kernel_rfl
@[go_sem] theorem tab243 : tSize Try.prog 51 = some 1 := by kernel_rfl
@[go_sem] theorem tab244 : tAgg Try.prog 51 = some false := by kernel_rfl
@[go_sem] theorem tab245 : tZero Try.prog 51 = some [.nil0] := by kernel_rfl
@[go_sem] theorem tab246 : tBytes Try.prog 51 = some 24 := by kernel_rfl
@[go_sem] theorem tab247 : (Program.underlying Try.prog 51).isSome = true := by kernel_rfl
@[go_sem] theorem tab248 : tElem Try.prog 51 = some 96 := by kernel_rfl
@[go_sem] theorem tab249 : tStr Try.prog 51 = false := by kernel_rfl
@[go_sem] theorem tab250 : tSize Try.prog 63 = some 1 := by kernel_rfl
@[go_sem] theorem tab251 : tAgg Try.prog 63 = some false := by kernel_rfl
@[go_sem] theorem tab252 : tZero Try.prog 63 = some [.nil0] := by kernel_rfl
@[go_sem] theorem tab253 : tBytes Try.prog 63 = some 24 := by kernel_rfl
@[go_sem] theorem tab254 : (Program.underlying Try.prog 63).isSome = true := by kernel_rfl
@[go_sem] theorem tab255 : tElem Try.prog 63 = some 9 := by kernel_rfl
@[go_sem] theorem tab256 : tStr Try.prog 63 = false := by kernel_rfl
@[go_sem] theorem tab257 : tSize Try.prog 64 = some 7 := by kernel_rfl
@[go_sem] theorem tab258 : tAgg Try.prog 64 = some true := by kernel_rfl
@[go_sem] theorem tab259 : tZero Try.prog 64 = some [.t (.str ⟨#[]⟩), .t (.str ⟨#[]⟩), .nil0, .nil0, .t (.int .i64 0), .t (.str ⟨#[]⟩), .nil0] := by kernel_rfl
@[go_sem] theorem tab260 : tBytes Try.prog 64 = some 128 := by kernel_rfl
@[go_sem] theorem tab261 : (Program.underlying Try.prog 64).isSome = true := by kernel_rfl
@[go_sem] theorem tab262 : tStr Try.prog 64 = false := by kernel_rfl
@[go_sem] theorem tab263 : tField Try.prog 64 0 = some (0, 9) := by kernel_rfl
@[go_sem] theorem tab264 : tField Try.prog 64 1 = some (1, 9) := by kernel_rfl
@[go_sem] theorem tab265 : tField Try.prog 64 2 = some (2, 63) := by kernel_rfl
@[go_sem] theorem tab266 : tField Try.prog 64 3 = some (3, 63) := by kernel_rfl
@[go_sem] theorem tab267 : tField Try.prog 64 4 = some (4, 42) := by kernel_rfl
@[go_sem] theorem tab268 : tFields Try.prog 64 = true := by kernel_rfl
@[go_sem] theorem tab269 : tSize Try.prog 65 = some 7 := by kernel_rfl
@[go_sem] theorem tab270 : tAgg Try.prog 65 = some true := by kernel_rfl
@[go_sem] theorem tab271 : tZero Try.prog 65 = some [.t (.str ⟨#[]⟩), .t (.str ⟨#[]⟩), .nil0, .nil0, .t (.int .i64 0), .t (.str ⟨#[]⟩), .nil0] := by kernel_rfl
@[go_sem] theorem tab272 : tBytes Try.prog 65 = some 128 := by kernel_rfl
@[go_sem] theorem tab273 : (Program.underlying Try.prog 65).isSome = true := by kernel_rfl
@[go_sem] theorem tab274 : tStr Try.prog 65 = false := by kernel_rfl
@[go_sem] theorem tab275 : tField Try.prog 65 0 = some (0, 9) := by kernel_rfl
@[go_sem] theorem tab276 : tField Try.prog 65 1 = some (1, 9) := by kernel_rfl
@[go_sem] theorem tab277 : tField Try.prog 65 2 = some (2, 63) := by kernel_rfl
@[go_sem] theorem tab278 : tField Try.prog 65 3 = some (3, 63) := by kernel_rfl
@[go_sem] theorem tab279 : tField Try.prog 65 4 = some (4, 42) := by kernel_rfl
@[go_sem] theorem tab280 : tFields Try.prog 65 = true := by kernel_rfl
@[go_sem] theorem tab281 : tSize Try.prog 68 = some 7 := by kernel_rfl
@[go_sem] theorem tab282 : tAgg Try.prog 68 = some true := by kernel_rfl
@[go_sem] theorem tab283 : tZero Try.prog 68 = some [.t (.str ⟨#[]⟩), .t (.str ⟨#[]⟩), .nil0, .nil0, .t (.int .i64 0), .t (.str ⟨#[]⟩), .nil0] := by kernel_rfl
@[go_sem] theorem tab284 : tBytes Try.prog 68 = some 128 := by kernel_rfl
@[go_sem] theorem tab285 : (Program.underlying Try.prog 68).isSome = true := by kernel_rfl
@[go_sem] theorem tab286 : tStr Try.prog 68 = false := by kernel_rfl
@[go_sem] theorem tab287 : tField Try.prog 68 0 = some (0, 9) := by kernel_rfl
@[go_sem] theorem tab288 : tField Try.prog 68 1 = some (1, 9) := by kernel_rfl
@[go_sem] theorem tab289 : tField Try.prog 68 2 = some (2, 63) := by kernel_rfl
@[go_sem] theorem tab290 : tField Try.prog 68 3 = some (3, 63) := by kernel_rfl
@[go_sem] theorem tab291 : tField Try.prog 68 4 = some (4, 48) := by kernel_rfl
@[go_sem] theorem tab292 : tFields Try.prog 68 = true := by kernel_rfl
@[go_sem] theorem tab293 : tSize Try.prog 69 = some 7 := by kernel_rfl
@[go_sem] theorem tab294 : tAgg Try.prog 69 = some true := by kernel_rfl
@[go_sem] theorem tab295 : tZero Try.prog 69 = some [.t (.str ⟨#[]⟩), .t (.str ⟨#[]⟩), .nil0, .nil0, .t (.int .i64 0), .t (.str ⟨#[]⟩), .nil0] := by kernel_rfl
@[go_sem] theorem tab296 : tBytes Try.prog 69 = some 128 := by kernel_rfl
@[go_sem] theorem tab297 : (Program.underlying Try.prog 69).isSome = true := by kernel_rfl
@[go_sem] theorem tab298 : tStr Try.prog 69 = false := by kernel_rfl
@[go_sem] theorem tab299 : tField Try.prog 69 0 = some (0, 9) := by kernel_rfl
@[go_sem] theorem tab300 : tField Try.prog 69 1 = some (1, 9) := by kernel_rfl
@[go_sem] theorem tab301 : tField Try.prog 69 2 = some (2, 63) := by kernel_rfl
@[go_sem] theorem tab302 : tField Try.prog 69 3 = some (3, 63) := by kernel_rfl
@[go_sem] theorem tab303 : tField Try.prog 69 4 = some (4, 48) := by kernel_rfl
@[go_sem] theorem tab304 : tFields Try.prog 69 = true := by kernel_rfl
@[go_sem] theorem tab305 : tSize Try.prog 74 = some 6 := by kernel_rfl
@[go_sem] theorem tab306 : tAgg Try.prog 74 = some true := by kernel_rfl
@[go_sem] theorem tab307 : tZero Try.prog 74 = some [.t (.int .i64 0), .t (.str ⟨#[]⟩), .nil0, .t (.str ⟨#[]⟩), .t (.str ⟨#[]⟩), .nil0] := by kernel_rfl
@[go_sem] theorem tab308 : tBytes Try.prog 74 = some 104 := by kernel_rfl
@[go_sem] theorem tab309 : (Program.underlying Try.prog 74).isSome = true := by kernel_rfl
@[go_sem] theorem tab310 : tStr Try.prog 74 = false := by kernel_rfl
@[go_sem] theorem tab311 : tField Try.prog 74 0 = some (0, 42) := by kernel_rfl
@[go_sem] theorem tab312 : tField Try.prog 74 1 = some (3, 9) := by kernel_rfl
@[go_sem] theorem tab313 : tField Try.prog 74 2 = some (4, 9) := by kernel_rfl
@[go_sem] theorem tab314 : tField Try.prog 74 3 = some (5, 63) := by kernel_rfl
@[go_sem] theorem tab315 : tFields Try.prog 74 = true := by kernel_rfl
@[go_sem] theorem tab316 : tSize Try.prog 75 = some 6 := by kernel_rfl
@[go_sem] theorem tab317 : tAgg Try.prog 75 = some true := by kernel_rfl
@[go_sem] theorem tab318 : tZero Try.prog 75 = some [.t (.int .i64 0), .t (.str ⟨#[]⟩), .nil0, .t (.str ⟨#[]⟩), .t (.str ⟨#[]⟩), .nil0] := by kernel_rfl
@[go_sem] theorem tab319 : tBytes Try.prog 75 = some 104 := by kernel_rfl
@[go_sem] theorem tab320 : (Program.underlying Try.prog 75).isSome = true := by kernel_rfl
@[go_sem] theorem tab321 : tStr Try.prog 75 = false := by kernel_rfl
@[go_sem] theorem tab322 : tField Try.prog 75 0 = some (0, 42) := by kernel_rfl
@[go_sem] theorem tab323 : tField Try.prog 75 1 = some (3, 9) := by kernel_rfl
@[go_sem] theorem tab324 : tField Try.prog 75 2 = some (4, 9) := by kernel_rfl
@[go_sem] theorem tab325 : tField Try.prog 75 3 = some (5, 63) := by kernel_rfl
@[go_sem] theorem tab326 : tFields Try.prog 75 = true := by kernel_rfl
@[go_sem] theorem tab327 : tSize Try.prog 76 = some 6 := by kernel_rfl
@[go_sem] theorem tab328 : tAgg Try.prog 76 = some true := by kernel_rfl
@[go_sem] theorem tab329 : tZero Try.prog 76 = some [.t (.int .i64 0), .t (.str ⟨#[]⟩), .nil0, .t (.str ⟨#[]⟩), .t (.str ⟨#[]⟩), .nil0] := by kernel_rfl
@[go_sem] theorem tab330 : tBytes Try.prog 76 = some 104 := by kernel_rfl
@[go_sem] theorem tab331 : (Program.underlying Try.prog 76).isSome = true := by kernel_rfl
@[go_sem] theorem tab332 : tStr Try.prog 76 = false := by kernel_rfl
@[go_sem] theorem tab333 : tField Try.prog 76 0 = some (0, 48) := by kernel_rfl
@[go_sem] theorem tab334 : tField Try.prog 76 1 = some (3, 9) := by kernel_rfl
@[go_sem] theorem tab335 : tField Try.prog 76 2 = some (4, 9) := by kernel_rfl
@[go_sem] theorem tab336 : tField Try.prog 76 3 = some (5, 63) := by kernel_rfl
@[go_sem] theorem tab337 : tFields Try.prog 76 = true := by kernel_rfl
@[go_sem] theorem tab338 : tSize Try.prog 77 = some 6 := by kernel_rfl
@[go_sem] theorem tab339 : tAgg Try.prog 77 = some true := by kernel_rfl
@[go_sem] theorem tab340 : tZero Try.prog 77 = some [.t (.int .i64 0), .t (.str ⟨#[]⟩), .nil0, .t (.str ⟨#[]⟩), .t (.str ⟨#[]⟩), .nil0] := by kernel_rfl
@[go_sem] theorem tab341 : tBytes Try.prog 77 = some 104 := by kernel_rfl
@[go_sem] theorem tab342 : (Program.underlying Try.prog 77).isSome = true := by kernel_rfl
@[go_sem] theorem tab343 : tStr Try.prog 77 = false := by kernel_rfl
@[go_sem] theorem tab344 : tField Try.prog 77 0 = some (0, 48) := by kernel_rfl
@[go_sem] theorem tab345 : tField Try.prog 77 1 = some (3, 9) := by kernel_rfl
@[go_sem] theorem tab346 : tField Try.prog 77 2 = some (4, 9) := by kernel_rfl
@[go_sem] theorem tab347 : tField Try.prog 77 3 = some (5, 63) := by kernel_rfl
@[go_sem] theorem tab348 : tFields Try.prog 77 = true := by kernel_rfl
@[go_sem] theorem tab349 : tSize Try.prog 89 = some 4 := by kernel_rfl
@[go_sem] theorem tab350 : tAgg Try.prog 89 = some true := by kernel_rfl
@[go_sem] theorem tab351 : tZero Try.prog 89 = some [.t (.str ⟨#[]⟩), .t (.int .i64 0), .t (.str ⟨#[]⟩), .nil0] := by kernel_rfl
@[go_sem] theorem tab352 : tBytes Try.prog 89 = some 64 := by kernel_rfl
@[go_sem] theorem tab353 : (Program.underlying Try.prog 89).isSome = true := by kernel_rfl
@[go_sem] theorem tab354 : tStr Try.prog 89 = false := by kernel_rfl
@[go_sem] theorem tab355 : tField Try.prog 89 0 = some (0, 9) := by kernel_rfl
@[go_sem] theorem tab356 : tField Try.prog 89 1 = some (1, 42) := by kernel_rfl
@[go_sem] theorem tab357 : tFields Try.prog 89 = true := by kernel_rfl
@[go_sem] theorem tab358 : tSize Try.prog 90 = some 4 := by kernel_rfl
@[go_sem] theorem tab359 : tAgg Try.prog 90 = some true := by kernel_rfl
@[go_sem] theorem tab360 : tZero Try.prog 90 = some [.t (.str ⟨#[]⟩), .t (.int .i64 0), .t (.str ⟨#[]⟩), .nil0] := by kernel_rfl
@[go_sem] theorem tab361 : tBytes Try.prog 90 = some 64 := by kernel_rfl
@[go_sem] theorem tab362 : (Program.underlying Try.prog 90).isSome = true := by kernel_rfl
@[go_sem] theorem tab363 : tStr Try.prog 90 = false := by kernel_rfl
@[go_sem] theorem tab364 : tField Try.prog 90 0 = some (0, 9) := by kernel_rfl
@[go_sem] theorem tab365 : tField Try.prog 90 1 = some (1, 42) := by kernel_rfl
@[go_sem] theorem tab366 : tFields Try.prog 90 = true := by kernel_rfl
@[go_sem] theorem tab367 : tSize Try.prog 95 = some 4 := by kernel_rfl
@[go_sem] theorem tab368 : tAgg Try.prog 95 = some true := by kernel_rfl
@[go_sem] theorem tab369 : tZero Try.prog 95 = some [.t (.str ⟨#[]⟩), .t (.int .i64 0), .t (.str ⟨#[]⟩), .nil0] := by kernel_rfl
@[go_sem] theorem tab370 : tBytes Try.prog 95 = some 64 := by kernel_rfl
@[go_sem] theorem tab371 : (Program.underlying Try.prog 95).isSome = true := by kernel_rfl
@[go_sem] theorem tab372 : tStr Try.prog 95 = false := by kernel_rfl
@[go_sem] theorem tab373 : tField Try.prog 95 0 = some (0, 9) := by kernel_rfl
@[go_sem] theorem tab374 : tField Try.prog 95 1 = some (1, 48) := by kernel_rfl
@[go_sem] theorem tab375 : tFields Try.prog 95 = true := by kernel_rfl
@[go_sem] theorem tab376 : tSize Try.prog 96 = some 4 := by kernel_rfl
@[go_sem] theorem tab377 : tAgg Try.prog 96 = some true := by kernel_rfl
@[go_sem] theorem tab378 : tZero Try.prog 96 = some [.t (.str ⟨#[]⟩), .t (.int .i64 0), .t (.str ⟨#[]⟩), .nil0] := by kernel_rfl
@[go_sem] theorem tab379 : tBytes Try.prog 96 = some 64 := by kernel_rfl
@[go_sem] theorem tab380 : (Program.underlying Try.prog 96).isSome = true := by kernel_rfl
@[go_sem] theorem tab381 : tStr Try.prog 96 = false := by kernel_rfl
@[go_sem] theorem tab382 : tField Try.prog 96 0 = some (0, 9) := by kernel_rfl
@[go_sem] theorem tab383 : tField Try.prog 96 1 = some (1, 48) := by kernel_rfl
@[go_sem] theorem tab384 : tFields Try.prog 96 = true := by kernel_rfl
@[go_sem] theorem tab385 : tSize Try.prog 116 = some 1 := by kernel_rfl
@[go_sem] theorem tab386 : tAgg Try.prog 116 = some false := by kernel_rfl
@[go_sem] theorem tab387 : tZero Try.prog 116 = some [.nil0] := by kernel_rfl
@[go_sem] theorem tab388 : tBytes Try.prog 116 = some 24 := by kernel_rfl
@[go_sem] theorem tab389 : (Program.underlying Try.prog 116).isSome = true := by kernel_rfl
@[go_sem] theorem tab390 : tElem Try.prog 116 = some 5 := by kernel_rfl
@[go_sem] theorem tab391 : tStr Try.prog 116 = false := by kernel_rfl
@[go_sem] theorem tab392 : tSize Try.prog 126 = some 1 := by kernel_rfl
@[go_sem] theorem tab393 : tAgg Try.prog 126 = some false := by kernel_rfl
@[go_sem] theorem tab394 : tBytes Try.prog 126 = some 16 := by kernel_rfl
@[go_sem] theorem tab395 : (Program.underlying Try.prog 126).isSome = true := by kernel_rfl
@[go_sem] theorem tab396 : tStr Try.prog 126 = false := by kernel_rfl
@[go_sem] theorem tab397 : tIface Try.prog 126 = true := by kernel_rfl
@[go_sem] theorem tab398 : tSize Try.prog 127 = some 1 := by kernel_rfl
@[go_sem] theorem tab399 : tAgg Try.prog 127 = some false := by kernel_rfl
@[go_sem] theorem tab400 : tBytes Try.prog 127 = some 16 := by kernel_rfl
@[go_sem] theorem tab401 : (Program.underlying Try.prog 127).isSome = true := by kernel_rfl
@[go_sem] theorem tab402 : tStr Try.prog 127 = false := by kernel_rfl
@[go_sem] theorem tab403 : tIface Try.prog 127 = true := by kernel_rfl
@[go_sem] theorem tab404 : tSize Try.prog 140 = some 1 := by kernel_rfl
@[go_sem] theorem tab405 : tAgg Try.prog 140 = some false := by kernel_rfl
@[go_sem] theorem tab406 : tZero Try.prog 140 = some [.nil0] := by kernel_rfl
@[go_sem] theorem tab407 : tBytes Try.prog 140 = some 24 := by kernel_rfl
@[go_sem] theorem tab408 : (Program.underlying Try.prog 140).isSome = true := by kernel_rfl
@[go_sem] theorem tab409 : tElem Try.prog 140 = some 63 := by kernel_rfl
@[go_sem] theorem tab410 : tStr Try.prog 140 = false := by kernel_rfl
@[go_sem] theorem tab411 : tSize Try.prog 154 = some 1 := by kernel_rfl
@[go_sem] theorem tab412 : tAgg Try.prog 154 = some false := by kernel_rfl
@[go_sem] theorem tab413 : tZero Try.prog 154 = some [.t (.int .u32 0)] := by kernel_rfl
@[go_sem] theorem tab414 : tBytes Try.prog 154 = some 4 := by kernel_rfl
@[go_sem] theorem tab415 : (Program.underlying Try.prog 154).isSome = true := by kernel_rfl
@[go_sem] theorem tab416 : tStr Try.prog 154 = false := by kernel_rfl
@[go_sem] theorem tab417 : tElem Try.prog 154 = none := by kernel_rfl
@[go_sem] theorem tab418 : tInt Try.prog 154 = some .u32 := by kernel_rfl
@[go_sem] theorem tab419 : tSize Try.prog 155 = some 1 := by kernel_rfl
@[go_sem] theorem tab420 : tAgg Try.prog 155 = some false := by kernel_rfl
@[go_sem] theorem tab421 : tZero Try.prog 155 = some [.t (.int .u8 0)] := by kernel_rfl
@[go_sem] theorem tab422 : tBytes Try.prog 155 = some 1 := by kernel_rfl
@[go_sem] theorem tab423 : (Program.underlying Try.prog 155).isSome = true := by kernel_rfl
@[go_sem] theorem tab424 : tStr Try.prog 155 = false := by kernel_rfl
@[go_sem] theorem tab425 : tElem Try.prog 155 = none := by kernel_rfl
@[go_sem] theorem tab426 : tInt Try.prog 155 = some .u8 := by kernel_rfl
@[go_sem] theorem tab427 : tSize Try.prog 156 = some 1 := by kernel_rfl
@[go_sem] theorem tab428 : tAgg Try.prog 156 = some false := by kernel_rfl
@[go_sem] theorem tab429 : tZero Try.prog 156 = some [.t (.int .u8 0)] := by kernel_rfl
@[go_sem] theorem tab430 : tBytes Try.prog 156 = some 1 := by kernel_rfl
@[go_sem] theorem tab431 : (Program.underlying Try.prog 156).isSome = true := by kernel_rfl
@[go_sem] theorem tab432 : tStr Try.prog 156 = false := by kernel_rfl
@[go_sem] theorem tab433 : tElem Try.prog 156 = none := by kernel_rfl
@[go_sem] theorem tab434 : tInt Try.prog 156 = some .u8 := by kernel_rfl
@[go_sem] theorem tab435 : tSize Try.prog 158 = some 1 := by kernel_rfl
@[go_sem] theorem tab436 : tAgg Try.prog 158 = some false := by kernel_rfl
@[go_sem] theorem tab437 : tZero Try.prog 158 = some [.t (.int .i32 0)] := by kernel_rfl
@[go_sem] theorem tab438 : tBytes Try.prog 158 = some 4 := by kernel_rfl
@[go_sem] theorem tab439 : (Program.underlying Try.prog 158).isSome = true := by kernel_rfl
@[go_sem] theorem tab440 : tStr Try.prog 158 = false := by kernel_rfl
@[go_sem] theorem tab441 : tElem Try.prog 158 = none := by kernel_rfl
@[go_sem] theorem tab442 : tInt Try.prog 158 = some .i32 := by kernel_rfl
@[go_sem] theorem tab443 : tSize Try.prog 159 = some 1 := by kernel_rfl
@[go_sem] theorem tab444 : tAgg Try.prog 159 = some false := by kernel_rfl
@[go_sem] theorem tab445 : tZero Try.prog 159 = some [.t (.int .i32 0)] := by kernel_rfl
@[go_sem] theorem tab446 : tBytes Try.prog 159 = some 4 := by kernel_rfl
@[go_sem] theorem tab447 : (Program.underlying Try.prog 159).isSome = true := by kernel_rfl
@[go_sem] theorem tab448 : tStr Try.prog 159 = false := by kernel_rfl
@[go_sem] theorem tab449 : tElem Try.prog 159 = none := by kernel_rfl
@[go_sem] theorem tab450 : tInt Try.prog 159 = some .i32 := by kernel_rfl
end Go.Proofs.Ytlnfbkalpdicmaa
