/- Facts on the seat's types, for walks by rewriting. -/
import Derived.Test.YtckiendbdbchnaaProg
import Derived.Test.YtckiendbdbchnaaV23
import Derived.KernelRfl
namespace Go.Proofs.Ytckiendbdbchnaa
open Go Go.VL
theorem mixed : Try.prog.follows .mixedOrders = true := by kernel_rfl
@[go_sem] theorem tab0 : tSize Try.prog 2 = some 1 := by kernel_rfl
@[go_sem] theorem tab1 : tAgg Try.prog 2 = some false := by kernel_rfl
@[go_sem] theorem tab2 : tZero Try.prog 2 = some [.t (.int .i64 0)] := by kernel_rfl
@[go_sem] theorem tab3 : tBytes Try.prog 2 = some 8 := by kernel_rfl
@[go_sem] theorem tab4 : tStr Try.prog 2 = false := by kernel_rfl
@[go_sem] theorem tab5 : tInt Try.prog 2 = some .i64 := by kernel_rfl
@[go_sem] theorem tab6 : tSize Try.prog 3 = some 1 := by kernel_rfl
@[go_sem] theorem tab7 : tAgg Try.prog 3 = some false := by kernel_rfl
@[go_sem] theorem tab8 : tZero Try.prog 3 = some [.t (.int .i64 0)] := by kernel_rfl
@[go_sem] theorem tab9 : tBytes Try.prog 3 = some 8 := by kernel_rfl
@[go_sem] theorem tab10 : tStr Try.prog 3 = false := by kernel_rfl
@[go_sem] theorem tab11 : tInt Try.prog 3 = some .i64 := by kernel_rfl
@[go_sem] theorem tab12 : tSize Try.prog 4 = some 1 := by kernel_rfl
@[go_sem] theorem tab13 : tAgg Try.prog 4 = some false := by kernel_rfl
@[go_sem] theorem tab14 : tZero Try.prog 4 = some [.t (.bool false)] := by kernel_rfl
@[go_sem] theorem tab15 : tBytes Try.prog 4 = some 1 := by kernel_rfl
@[go_sem] theorem tab16 : tStr Try.prog 4 = false := by kernel_rfl
@[go_sem] theorem tab17 : tBool Try.prog 4 = true := by kernel_rfl
@[go_sem] theorem tab18 : tSize Try.prog 5 = some 1 := by kernel_rfl
@[go_sem] theorem tab19 : tAgg Try.prog 5 = some false := by kernel_rfl
@[go_sem] theorem tab20 : tZero Try.prog 5 = some [.t (.int .u8 0)] := by kernel_rfl
@[go_sem] theorem tab21 : tBytes Try.prog 5 = some 1 := by kernel_rfl
@[go_sem] theorem tab22 : tStr Try.prog 5 = false := by kernel_rfl
@[go_sem] theorem tab23 : tInt Try.prog 5 = some .u8 := by kernel_rfl
@[go_sem] theorem tab24 : tSize Try.prog 6 = some 1 := by kernel_rfl
@[go_sem] theorem tab25 : tAgg Try.prog 6 = some false := by kernel_rfl
@[go_sem] theorem tab26 : tZero Try.prog 6 = some [.t (.int .u8 0)] := by kernel_rfl
@[go_sem] theorem tab27 : tBytes Try.prog 6 = some 1 := by kernel_rfl
@[go_sem] theorem tab28 : tStr Try.prog 6 = false := by kernel_rfl
@[go_sem] theorem tab29 : tInt Try.prog 6 = some .u8 := by kernel_rfl
@[go_sem] theorem tab30 : tSize Try.prog 7 = some 4 := by kernel_rfl
@[go_sem] theorem tab31 : tAgg Try.prog 7 = some true := by kernel_rfl
@[go_sem] theorem tab32 : tZero Try.prog 7 = some [.t (.int .i64 0), .t (.int .i64 0), .t (.bool false), .t (.int .u8 0)] := by kernel_rfl
@[go_sem] theorem tab33 : tBytes Try.prog 7 = some 24 := by kernel_rfl
@[go_sem] theorem tab34 : tStr Try.prog 7 = false := by kernel_rfl
@[go_sem] theorem tab35 : tField Try.prog 7 0 = some (0, 2) := by kernel_rfl
@[go_sem] theorem tab36 : tField Try.prog 7 1 = some (1, 3) := by kernel_rfl
@[go_sem] theorem tab37 : tField Try.prog 7 2 = some (2, 4) := by kernel_rfl
@[go_sem] theorem tab38 : tField Try.prog 7 3 = some (3, 6) := by kernel_rfl
@[go_sem] theorem tab39 : tFields Try.prog 7 = true := by kernel_rfl
@[go_sem] theorem tab40 : tSize Try.prog 8 = some 4 := by kernel_rfl
@[go_sem] theorem tab41 : tAgg Try.prog 8 = some true := by kernel_rfl
@[go_sem] theorem tab42 : tZero Try.prog 8 = some [.t (.int .i64 0), .t (.int .i64 0), .t (.bool false), .t (.int .u8 0)] := by kernel_rfl
@[go_sem] theorem tab43 : tBytes Try.prog 8 = some 24 := by kernel_rfl
@[go_sem] theorem tab44 : tStr Try.prog 8 = false := by kernel_rfl
@[go_sem] theorem tab45 : tField Try.prog 8 0 = some (0, 2) := by kernel_rfl
@[go_sem] theorem tab46 : tField Try.prog 8 1 = some (1, 3) := by kernel_rfl
@[go_sem] theorem tab47 : tField Try.prog 8 2 = some (2, 4) := by kernel_rfl
@[go_sem] theorem tab48 : tField Try.prog 8 3 = some (3, 6) := by kernel_rfl
@[go_sem] theorem tab49 : tFields Try.prog 8 = true := by kernel_rfl
@[go_sem] theorem tab50 : tSize Try.prog 9 = some 1 := by kernel_rfl
@[go_sem] theorem tab51 : tAgg Try.prog 9 = some false := by kernel_rfl
@[go_sem] theorem tab52 : tZero Try.prog 9 = some [.t (.str ⟨#[]⟩)] := by kernel_rfl
@[go_sem] theorem tab53 : tBytes Try.prog 9 = some 16 := by kernel_rfl
@[go_sem] theorem tab54 : tStr Try.prog 9 = true := by kernel_rfl
@[go_sem] theorem tab55 : tSize Try.prog 10 = some 1 := by kernel_rfl
@[go_sem] theorem tab56 : tAgg Try.prog 10 = some false := by kernel_rfl
@[go_sem] theorem tab57 : tZero Try.prog 10 = some [.t (.str ⟨#[]⟩)] := by kernel_rfl
@[go_sem] theorem tab58 : tBytes Try.prog 10 = some 16 := by kernel_rfl
@[go_sem] theorem tab59 : tStr Try.prog 10 = true := by kernel_rfl
@[go_sem] theorem tab60 : tSize Try.prog 11 = some 1 := by kernel_rfl
@[go_sem] theorem tab61 : tAgg Try.prog 11 = some false := by kernel_rfl
@[go_sem] theorem tab62 : tZero Try.prog 11 = some [.t (.str ⟨#[]⟩)] := by kernel_rfl
@[go_sem] theorem tab63 : tBytes Try.prog 11 = some 16 := by kernel_rfl
@[go_sem] theorem tab64 : tStr Try.prog 11 = true := by kernel_rfl
@[go_sem] theorem tab65 : tSize Try.prog 12 = some 1 := by kernel_rfl
@[go_sem] theorem tab66 : tAgg Try.prog 12 = some false := by kernel_rfl
@[go_sem] theorem tab67 : tZero Try.prog 12 = some [.t (.int .u64 0)] := by kernel_rfl
@[go_sem] theorem tab68 : tBytes Try.prog 12 = some 8 := by kernel_rfl
@[go_sem] theorem tab69 : tStr Try.prog 12 = false := by kernel_rfl
@[go_sem] theorem tab70 : tInt Try.prog 12 = some .u64 := by kernel_rfl
@[go_sem] theorem tab71 : tSize Try.prog 13 = some 2 := by kernel_rfl
@[go_sem] theorem tab72 : tAgg Try.prog 13 = some true := by kernel_rfl
@[go_sem] theorem tab73 : tZero Try.prog 13 = some [.t (.str ⟨#[]⟩), .t (.int .u64 0)] := by kernel_rfl
@[go_sem] theorem tab74 : tBytes Try.prog 13 = some 24 := by kernel_rfl
@[go_sem] theorem tab75 : tStr Try.prog 13 = false := by kernel_rfl
@[go_sem] theorem tab76 : tField Try.prog 13 0 = some (0, 9) := by kernel_rfl
@[go_sem] theorem tab77 : tField Try.prog 13 1 = some (1, 12) := by kernel_rfl
@[go_sem] theorem tab78 : tFields Try.prog 13 = true := by kernel_rfl
@[go_sem] theorem tab79 : tSize Try.prog 14 = some 2 := by kernel_rfl
@[go_sem] theorem tab80 : tAgg Try.prog 14 = some true := by kernel_rfl
@[go_sem] theorem tab81 : tZero Try.prog 14 = some [.t (.str ⟨#[]⟩), .t (.int .u64 0)] := by kernel_rfl
@[go_sem] theorem tab82 : tBytes Try.prog 14 = some 24 := by kernel_rfl
@[go_sem] theorem tab83 : tStr Try.prog 14 = false := by kernel_rfl
@[go_sem] theorem tab84 : tField Try.prog 14 0 = some (0, 9) := by kernel_rfl
@[go_sem] theorem tab85 : tField Try.prog 14 1 = some (1, 12) := by kernel_rfl
@[go_sem] theorem tab86 : tFields Try.prog 14 = true := by kernel_rfl
@[go_sem] theorem tab87 : tSize Try.prog 20 = some 1 := by kernel_rfl
@[go_sem] theorem tab88 : tAgg Try.prog 20 = some false := by kernel_rfl
@[go_sem] theorem tab89 : tBytes Try.prog 20 = some 16 := by kernel_rfl
@[go_sem] theorem tab90 : tStr Try.prog 20 = false := by kernel_rfl
@[go_sem] theorem tab91 : tIface Try.prog 20 = true := by kernel_rfl
@[go_sem] theorem tab92 : tSize Try.prog 21 = some 1 := by kernel_rfl
@[go_sem] theorem tab93 : tAgg Try.prog 21 = some false := by kernel_rfl
@[go_sem] theorem tab94 : tZero Try.prog 21 = some [.t (.int .i32 0)] := by kernel_rfl
@[go_sem] theorem tab95 : tBytes Try.prog 21 = some 4 := by kernel_rfl
@[go_sem] theorem tab96 : tStr Try.prog 21 = false := by kernel_rfl
@[go_sem] theorem tab97 : tInt Try.prog 21 = some .i32 := by kernel_rfl
@[go_sem] theorem tab98 : tSize Try.prog 22 = some 1 := by kernel_rfl
@[go_sem] theorem tab99 : tAgg Try.prog 22 = some false := by kernel_rfl
@[go_sem] theorem tab100 : tZero Try.prog 22 = some [.nil0] := by kernel_rfl
@[go_sem] theorem tab101 : tBytes Try.prog 22 = some 24 := by kernel_rfl
@[go_sem] theorem tab102 : tElem Try.prog 22 = some 9 := by kernel_rfl
@[go_sem] theorem tab103 : tStr Try.prog 22 = false := by kernel_rfl
@[go_sem] theorem tab104 : tSize Try.prog 28 = some 1 := by kernel_rfl
@[go_sem] theorem tab105 : tAgg Try.prog 28 = some false := by kernel_rfl
@[go_sem] theorem tab106 : tZero Try.prog 28 = some [.nil0] := by kernel_rfl
@[go_sem] theorem tab107 : tBytes Try.prog 28 = some 24 := by kernel_rfl
@[go_sem] theorem tab108 : tElem Try.prog 28 = some 30 := by kernel_rfl
@[go_sem] theorem tab109 : tStr Try.prog 28 = false := by kernel_rfl
@[go_sem] theorem tab110 : tSize Try.prog 29 = some 3 := by kernel_rfl
@[go_sem] theorem tab111 : tAgg Try.prog 29 = some true := by kernel_rfl
@[go_sem] theorem tab112 : tZero Try.prog 29 = some [.t (.int .i64 0), .t (.str ⟨#[]⟩), .nil0] := by kernel_rfl
@[go_sem] theorem tab113 : tBytes Try.prog 29 = some 48 := by kernel_rfl
@[go_sem] theorem tab114 : tStr Try.prog 29 = false := by kernel_rfl
@[go_sem] theorem tab115 : tField Try.prog 29 0 = some (0, 3) := by kernel_rfl
@[go_sem] theorem tab116 : tField Try.prog 29 1 = some (1, 9) := by kernel_rfl
@[go_sem] theorem tab117 : tField Try.prog 29 2 = some (2, 28) := by kernel_rfl
@[go_sem] theorem tab118 : tFields Try.prog 29 = true := by kernel_rfl
@[go_sem] theorem tab119 : tSize Try.prog 30 = some 3 := by kernel_rfl
@[go_sem] theorem tab120 : tAgg Try.prog 30 = some true := by kernel_rfl
@[go_sem] theorem tab121 : tZero Try.prog 30 = some [.t (.int .i64 0), .t (.str ⟨#[]⟩), .nil0] := by kernel_rfl
@[go_sem] theorem tab122 : tBytes Try.prog 30 = some 48 := by kernel_rfl
@[go_sem] theorem tab123 : tStr Try.prog 30 = false := by kernel_rfl
@[go_sem] theorem tab124 : tField Try.prog 30 0 = some (0, 3) := by kernel_rfl
@[go_sem] theorem tab125 : tField Try.prog 30 1 = some (1, 9) := by kernel_rfl
@[go_sem] theorem tab126 : tField Try.prog 30 2 = some (2, 28) := by kernel_rfl
@[go_sem] theorem tab127 : tFields Try.prog 30 = true := by kernel_rfl
@[go_sem] theorem tab128 : tSize Try.prog 33 = some 1 := by kernel_rfl
@[go_sem] theorem tab129 : tAgg Try.prog 33 = some false := by kernel_rfl
@[go_sem] theorem tab130 : tZero Try.prog 33 = some [.nil0] := by kernel_rfl
@[go_sem] theorem tab131 : tBytes Try.prog 33 = some 24 := by kernel_rfl
@[go_sem] theorem tab132 : tElem Try.prog 33 = some 35 := by kernel_rfl
@[go_sem] theorem tab133 : tStr Try.prog 33 = false := by kernel_rfl
@[go_sem] theorem tab134 : tSize Try.prog 34 = some 3 := by kernel_rfl
@[go_sem] theorem tab135 : tAgg Try.prog 34 = some true := by kernel_rfl
@[go_sem] theorem tab136 : tZero Try.prog 34 = some [.t (.int .i64 0), .t (.str ⟨#[]⟩), .nil0] := by kernel_rfl
@[go_sem] theorem tab137 : tBytes Try.prog 34 = some 48 := by kernel_rfl
@[go_sem] theorem tab138 : tStr Try.prog 34 = false := by kernel_rfl
@[go_sem] theorem tab139 : tField Try.prog 34 0 = some (0, 3) := by kernel_rfl
@[go_sem] theorem tab140 : tField Try.prog 34 1 = some (1, 9) := by kernel_rfl
@[go_sem] theorem tab141 : tField Try.prog 34 2 = some (2, 33) := by kernel_rfl
@[go_sem] theorem tab142 : tFields Try.prog 34 = true := by kernel_rfl
@[go_sem] theorem tab143 : tSize Try.prog 35 = some 3 := by kernel_rfl
@[go_sem] theorem tab144 : tAgg Try.prog 35 = some true := by kernel_rfl
@[go_sem] theorem tab145 : tZero Try.prog 35 = some [.t (.int .i64 0), .t (.str ⟨#[]⟩), .nil0] := by kernel_rfl
@[go_sem] theorem tab146 : tBytes Try.prog 35 = some 48 := by kernel_rfl
@[go_sem] theorem tab147 : tStr Try.prog 35 = false := by kernel_rfl
@[go_sem] theorem tab148 : tField Try.prog 35 0 = some (0, 3) := by kernel_rfl
@[go_sem] theorem tab149 : tField Try.prog 35 1 = some (1, 9) := by kernel_rfl
@[go_sem] theorem tab150 : tField Try.prog 35 2 = some (2, 33) := by kernel_rfl
@[go_sem] theorem tab151 : tFields Try.prog 35 = true := by kernel_rfl
@[go_sem] theorem tab152 : tSize Try.prog 58 = some 1 := by kernel_rfl
@[go_sem] theorem tab153 : tAgg Try.prog 58 = some false := by kernel_rfl
@[go_sem] theorem tab154 : tZero Try.prog 58 = some [.nil0] := by kernel_rfl
@[go_sem] theorem tab155 : tBytes Try.prog 58 = some 24 := by kernel_rfl
@[go_sem] theorem tab156 : tElem Try.prog 58 = some 4 := by kernel_rfl
@[go_sem] theorem tab157 : tStr Try.prog 58 = false := by kernel_rfl
@[go_sem] theorem tab158 : tSize Try.prog 59 = some 1 := by kernel_rfl
@[go_sem] theorem tab159 : tAgg Try.prog 59 = some false := by kernel_rfl
@[go_sem] theorem tab160 : tZero Try.prog 59 = some [.nil0] := by kernel_rfl
@[go_sem] theorem tab161 : tBytes Try.prog 59 = some 24 := by kernel_rfl
@[go_sem] theorem tab162 : tElem Try.prog 59 = some 58 := by kernel_rfl
@[go_sem] theorem tab163 : tStr Try.prog 59 = false := by kernel_rfl
@[go_sem] theorem tab164 : tSize Try.prog 60 = some 2 := by kernel_rfl
@[go_sem] theorem tab165 : tAgg Try.prog 60 = some true := by kernel_rfl
@[go_sem] theorem tab166 : tZero Try.prog 60 = some [.nil0, .nil0] := by kernel_rfl
@[go_sem] theorem tab167 : tBytes Try.prog 60 = some 48 := by kernel_rfl
@[go_sem] theorem tab168 : tStr Try.prog 60 = false := by kernel_rfl
@[go_sem] theorem tab169 : tField Try.prog 60 0 = some (0, 59) := by kernel_rfl
@[go_sem] theorem tab170 : tField Try.prog 60 1 = some (1, 59) := by kernel_rfl
@[go_sem] theorem tab171 : tFields Try.prog 60 = true := by kernel_rfl
@[go_sem] theorem tab172 : tSize Try.prog 61 = some 2 := by kernel_rfl
@[go_sem] theorem tab173 : tAgg Try.prog 61 = some true := by kernel_rfl
@[go_sem] theorem tab174 : tZero Try.prog 61 = some [.nil0, .nil0] := by kernel_rfl
@[go_sem] theorem tab175 : tBytes Try.prog 61 = some 48 := by kernel_rfl
@[go_sem] theorem tab176 : tStr Try.prog 61 = false := by kernel_rfl
@[go_sem] theorem tab177 : tField Try.prog 61 0 = some (0, 59) := by kernel_rfl
@[go_sem] theorem tab178 : tField Try.prog 61 1 = some (1, 59) := by kernel_rfl
@[go_sem] theorem tab179 : tFields Try.prog 61 = true := by kernel_rfl
@[go_sem] theorem tab180 : tSize Try.prog 62 = some 1 := by kernel_rfl
@[go_sem] theorem tab181 : tAgg Try.prog 62 = some false := by kernel_rfl
@[go_sem] theorem tab182 : tZero Try.prog 62 = some [.nil0] := by kernel_rfl
@[go_sem] theorem tab183 : tBytes Try.prog 62 = some 24 := by kernel_rfl
@[go_sem] theorem tab184 : tElem Try.prog 62 = some 3 := by kernel_rfl
@[go_sem] theorem tab185 : tStr Try.prog 62 = false := by kernel_rfl
@[go_sem] theorem tab186 : tSize Try.prog 68 = some 1 := by kernel_rfl
@[go_sem] theorem tab187 : tAgg Try.prog 68 = some false := by kernel_rfl
@[go_sem] theorem tab188 : tZero Try.prog 68 = some [.nil0] := by kernel_rfl
@[go_sem] theorem tab189 : tBytes Try.prog 68 = some 24 := by kernel_rfl
@[go_sem] theorem tab190 : tElem Try.prog 68 = some 22 := by kernel_rfl
@[go_sem] theorem tab191 : tStr Try.prog 68 = false := by kernel_rfl
@[go_sem] theorem tab192 : tSize Try.prog 70 = some 1 := by kernel_rfl
@[go_sem] theorem tab193 : tAgg Try.prog 70 = some false := by kernel_rfl
@[go_sem] theorem tab194 : tZero Try.prog 70 = some [.nil0] := by kernel_rfl
@[go_sem] theorem tab195 : tBytes Try.prog 70 = some 24 := by kernel_rfl
@[go_sem] theorem tab196 : tElem Try.prog 70 = some 5 := by kernel_rfl
@[go_sem] theorem tab197 : tStr Try.prog 70 = false := by kernel_rfl
@[go_sem] theorem tab198 : tSize Try.prog 71 = some 1 := by kernel_rfl
@[go_sem] theorem tab199 : tAgg Try.prog 71 = some false := by kernel_rfl
@[go_sem] theorem tab200 : tZero Try.prog 71 = some [.nil0] := by kernel_rfl
@[go_sem] theorem tab201 : tBytes Try.prog 71 = some 24 := by kernel_rfl
@[go_sem] theorem tab202 : tElem Try.prog 71 = some 76 := by kernel_rfl
@[go_sem] theorem tab203 : tStr Try.prog 71 = false := by kernel_rfl
@[go_sem] theorem tab204 : tSize Try.prog 75 = some 3 := by kernel_rfl
@[go_sem] theorem tab205 : tAgg Try.prog 75 = some true := by kernel_rfl
@[go_sem] theorem tab206 : tZero Try.prog 75 = some [.t (.int .i64 0), .t (.str ⟨#[]⟩), .nil0] := by kernel_rfl
@[go_sem] theorem tab207 : tBytes Try.prog 75 = some 48 := by kernel_rfl
@[go_sem] theorem tab208 : tStr Try.prog 75 = false := by kernel_rfl
@[go_sem] theorem tab209 : tField Try.prog 75 0 = some (0, 3) := by kernel_rfl
@[go_sem] theorem tab210 : tField Try.prog 75 1 = some (1, 9) := by kernel_rfl
@[go_sem] theorem tab211 : tField Try.prog 75 2 = some (2, 62) := by kernel_rfl
@[go_sem] theorem tab212 : tFields Try.prog 75 = true := by kernel_rfl
@[go_sem] theorem tab213 : tSize Try.prog 76 = some 3 := by kernel_rfl
@[go_sem] theorem tab214 : tAgg Try.prog 76 = some true := by kernel_rfl
@[go_sem] theorem tab215 : tZero Try.prog 76 = some [.t (.int .i64 0), .t (.str ⟨#[]⟩), .nil0] := by kernel_rfl
@[go_sem] theorem tab216 : tBytes Try.prog 76 = some 48 := by kernel_rfl
@[go_sem] theorem tab217 : tStr Try.prog 76 = false := by kernel_rfl
@[go_sem] theorem tab218 : tField Try.prog 76 0 = some (0, 3) := by kernel_rfl
@[go_sem] theorem tab219 : tField Try.prog 76 1 = some (1, 9) := by kernel_rfl
@[go_sem] theorem tab220 : tField Try.prog 76 2 = some (2, 62) := by kernel_rfl
@[go_sem] theorem tab221 : tFields Try.prog 76 = true := by kernel_rfl
@[go_sem] theorem tab222 : tSize Try.prog 77 = some 1 := by kernel_rfl
@[go_sem] theorem tab223 : tAgg Try.prog 77 = some false := by kernel_rfl
@[go_sem] theorem tab224 : tZero Try.prog 77 = some [.nil0] := by kernel_rfl
@[go_sem] theorem tab225 : tBytes Try.prog 77 = some 24 := by kernel_rfl
@[go_sem] theorem tab226 : tElem Try.prog 77 = some 62 := by kernel_rfl
@[go_sem] theorem tab227 : tStr Try.prog 77 = false := by kernel_rfl
@[go_sem] theorem tab228 : tSize Try.prog 78 = some 2 := by kernel_rfl
@[go_sem] theorem tab229 : tAgg Try.prog 78 = some true := by kernel_rfl
@[go_sem] theorem tab230 : tZero Try.prog 78 = some [.nil0, .nil0] := by kernel_rfl
@[go_sem] theorem tab231 : tBytes Try.prog 78 = some 48 := by kernel_rfl
@[go_sem] theorem tab232 : tStr Try.prog 78 = false := by kernel_rfl
@[go_sem] theorem tab233 : tField Try.prog 78 0 = some (0, 33) := by kernel_rfl
@[go_sem] theorem tab234 : tField Try.prog 78 1 = some (1, 77) := by kernel_rfl
@[go_sem] theorem tab235 : tFields Try.prog 78 = true := by kernel_rfl
@[go_sem] theorem tab236 : tSize Try.prog 79 = some 2 := by kernel_rfl
@[go_sem] theorem tab237 : tAgg Try.prog 79 = some true := by kernel_rfl
@[go_sem] theorem tab238 : tZero Try.prog 79 = some [.nil0, .nil0] := by kernel_rfl
@[go_sem] theorem tab239 : tBytes Try.prog 79 = some 48 := by kernel_rfl
@[go_sem] theorem tab240 : tStr Try.prog 79 = false := by kernel_rfl
@[go_sem] theorem tab241 : tField Try.prog 79 0 = some (0, 33) := by kernel_rfl
@[go_sem] theorem tab242 : tField Try.prog 79 1 = some (1, 77) := by kernel_rfl
@[go_sem] theorem tab243 : tFields Try.prog 79 = true := by kernel_rfl
@[go_sem] theorem tab244 : tSize Try.prog 92 = some 1 := by kernel_rfl
@[go_sem] theorem tab245 : tAgg Try.prog 92 = some false := by kernel_rfl
@[go_sem] theorem tab246 : tZero Try.prog 92 = some [.t (.int .u32 0)] := by kernel_rfl
@[go_sem] theorem tab247 : tBytes Try.prog 92 = some 4 := by kernel_rfl
@[go_sem] theorem tab248 : tStr Try.prog 92 = false := by kernel_rfl
@[go_sem] theorem tab249 : tInt Try.prog 92 = some .u32 := by kernel_rfl
@[go_sem] theorem tab250 : tSize Try.prog 93 = some 1 := by kernel_rfl
@[go_sem] theorem tab251 : tAgg Try.prog 93 = some false := by kernel_rfl
@[go_sem] theorem tab252 : tZero Try.prog 93 = some [.t (.int .u8 0)] := by kernel_rfl
@[go_sem] theorem tab253 : tBytes Try.prog 93 = some 1 := by kernel_rfl
@[go_sem] theorem tab254 : tStr Try.prog 93 = false := by kernel_rfl
@[go_sem] theorem tab255 : tInt Try.prog 93 = some .u8 := by kernel_rfl
@[go_sem] theorem tab256 : tSize Try.prog 94 = some 1 := by kernel_rfl
@[go_sem] theorem tab257 : tAgg Try.prog 94 = some false := by kernel_rfl
@[go_sem] theorem tab258 : tZero Try.prog 94 = some [.t (.int .u8 0)] := by kernel_rfl
@[go_sem] theorem tab259 : tBytes Try.prog 94 = some 1 := by kernel_rfl
@[go_sem] theorem tab260 : tStr Try.prog 94 = false := by kernel_rfl
@[go_sem] theorem tab261 : tInt Try.prog 94 = some .u8 := by kernel_rfl
@[go_sem] theorem tab262 : tSize Try.prog 97 = some 1 := by kernel_rfl
@[go_sem] theorem tab263 : tAgg Try.prog 97 = some false := by kernel_rfl
@[go_sem] theorem tab264 : tZero Try.prog 97 = some [.t (.int .i32 0)] := by kernel_rfl
@[go_sem] theorem tab265 : tBytes Try.prog 97 = some 4 := by kernel_rfl
@[go_sem] theorem tab266 : tStr Try.prog 97 = false := by kernel_rfl
@[go_sem] theorem tab267 : tInt Try.prog 97 = some .i32 := by kernel_rfl
@[go_sem] theorem tab268 : tSize Try.prog 98 = some 1 := by kernel_rfl
@[go_sem] theorem tab269 : tAgg Try.prog 98 = some false := by kernel_rfl
@[go_sem] theorem tab270 : tZero Try.prog 98 = some [.t (.int .i32 0)] := by kernel_rfl
@[go_sem] theorem tab271 : tBytes Try.prog 98 = some 4 := by kernel_rfl
@[go_sem] theorem tab272 : tStr Try.prog 98 = false := by kernel_rfl
@[go_sem] theorem tab273 : tInt Try.prog 98 = some .i32 := by kernel_rfl
end Go.Proofs.Ytckiendbdbchnaa
