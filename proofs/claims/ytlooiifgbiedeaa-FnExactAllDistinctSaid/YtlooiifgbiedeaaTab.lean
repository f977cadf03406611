/- Facts on the seat's types, for walks by rewriting. -/
import Derived.Test.YtlooiifgbiedeaaProg
import Derived.Test.YtlooiifgbiedeaaV27
import Derived.KernelRfl
namespace Go.Proofs.Ytlooiifgbiedeaa
open Go Go.VL
theorem mixed : Try.prog.follows .mixedOrders = true := by kernel_rfl
@[go_sem] theorem tab0 : tSize Try.prog 2 = some 1 := by kernel_rfl
@[go_sem] theorem tab1 : tAgg Try.prog 2 = some false := by kernel_rfl
@[go_sem] theorem tab2 : tZero Try.prog 2 = some [.t (.int .i64 0)] := by kernel_rfl
@[go_sem] theorem tab3 : tBytes Try.prog 2 = some 8 := by kernel_rfl
@[go_sem] theorem tab4 : tStr Try.prog 2 = false := by kernel_rfl
@[go_sem] theorem tab5 : tElem Try.prog 2 = none := by kernel_rfl
@[go_sem] theorem tab6 : tInt Try.prog 2 = some .i64 := by kernel_rfl
@[go_sem] theorem tab7 : tSize Try.prog 3 = some 1 := by kernel_rfl
@[go_sem] theorem tab8 : tAgg Try.prog 3 = some false := by kernel_rfl
@[go_sem] theorem tab9 : tZero Try.prog 3 = some [.t (.int .i64 0)] := by kernel_rfl
@[go_sem] theorem tab10 : tBytes Try.prog 3 = some 8 := by kernel_rfl
@[go_sem] theorem tab11 : tStr Try.prog 3 = false := by kernel_rfl
@[go_sem] theorem tab12 : tElem Try.prog 3 = none := by kernel_rfl
@[go_sem] theorem tab13 : tInt Try.prog 3 = some .i64 := by kernel_rfl
@[go_sem] theorem tab14 : tSize Try.prog 4 = some 1 := by kernel_rfl
@[go_sem] theorem tab15 : tAgg Try.prog 4 = some false := by kernel_rfl
@[go_sem] theorem tab16 : tZero Try.prog 4 = some [.t (.bool false)] := by kernel_rfl
@[go_sem] theorem tab17 : tBytes Try.prog 4 = some 1 := by kernel_rfl
@[go_sem] theorem tab18 : tStr Try.prog 4 = false := by kernel_rfl
@[go_sem] theorem tab19 : tBool Try.prog 4 = true := by kernel_rfl
@[go_sem] theorem tab20 : tSize Try.prog 5 = some 1 := by kernel_rfl
@[go_sem] theorem tab21 : tAgg Try.prog 5 = some false := by kernel_rfl
@[go_sem] theorem tab22 : tZero Try.prog 5 = some [.t (.int .u8 0)] := by kernel_rfl
@[go_sem] theorem tab23 : tBytes Try.prog 5 = some 1 := by kernel_rfl
@[go_sem] theorem tab24 : tStr Try.prog 5 = false := by kernel_rfl
@[go_sem] theorem tab25 : tElem Try.prog 5 = none := by kernel_rfl
@[go_sem] theorem tab26 : tInt Try.prog 5 = some .u8 := by kernel_rfl
@[go_sem] theorem tab27 : tSize Try.prog 6 = some 1 := by kernel_rfl
@[go_sem] theorem tab28 : tAgg Try.prog 6 = some false := by kernel_rfl
@[go_sem] theorem tab29 : tZero Try.prog 6 = some [.t (.int .u8 0)] := by kernel_rfl
@[go_sem] theorem tab30 : tBytes Try.prog 6 = some 1 := by kernel_rfl
@[go_sem] theorem tab31 : tStr Try.prog 6 = false := by kernel_rfl
@[go_sem] theorem tab32 : tElem Try.prog 6 = none := by kernel_rfl
@[go_sem] theorem tab33 : tInt Try.prog 6 = some .u8 := by kernel_rfl
@[go_sem] theorem tab34 : tSize Try.prog 7 = some 4 := by kernel_rfl
@[go_sem] theorem tab35 : tAgg Try.prog 7 = some true := by kernel_rfl
@[go_sem] theorem tab36 : tZero Try.prog 7 = some [.t (.int .i64 0), .t (.int .i64 0), .t (.bool false), .t (.int .u8 0)] := by kernel_rfl
@[go_sem] theorem tab37 : tBytes Try.prog 7 = some 24 := by kernel_rfl
@[go_sem] theorem tab38 : tStr Try.prog 7 = false := by kernel_rfl
@[go_sem] theorem tab39 : tField Try.prog 7 0 = some (0, 2) := by kernel_rfl
@[go_sem] theorem tab40 : tField Try.prog 7 1 = some (1, 3) := by kernel_rfl
@[go_sem] theorem tab41 : tField Try.prog 7 2 = some (2, 4) := by kernel_rfl
@[go_sem] theorem tab42 : tField Try.prog 7 3 = some (3, 6) := by kernel_rfl
@[go_sem] theorem tab43 : tFields Try.prog 7 = true := by kernel_rfl
@[go_sem] theorem tab44 : tSize Try.prog 8 = some 4 := by kernel_rfl
@[go_sem] theorem tab45 : tAgg Try.prog 8 = some true := by kernel_rfl
@[go_sem] theorem tab46 : tZero Try.prog 8 = some [.t (.int .i64 0), .t (.int .i64 0), .t (.bool false), .t (.int .u8 0)] := by kernel_rfl
@[go_sem] theorem tab47 : tBytes Try.prog 8 = some 24 := by kernel_rfl
@[go_sem] theorem tab48 : tStr Try.prog 8 = false := by kernel_rfl
@[go_sem] theorem tab49 : tField Try.prog 8 0 = some (0, 2) := by kernel_rfl
@[go_sem] theorem tab50 : tField Try.prog 8 1 = some (1, 3) := by kernel_rfl
@[go_sem] theorem tab51 : tField Try.prog 8 2 = some (2, 4) := by kernel_rfl
@[go_sem] theorem tab52 : tField Try.prog 8 3 = some (3, 6) := by kernel_rfl
@[go_sem] theorem tab53 : tFields Try.prog 8 = true := by kernel_rfl
@[go_sem] theorem tab54 : tSize Try.prog 9 = some 1 := by kernel_rfl
@[go_sem] theorem tab55 : tAgg Try.prog 9 = some false := by kernel_rfl
@[go_sem] theorem tab56 : tZero Try.prog 9 = some [.t (.str ⟨#[]⟩)] := by kernel_rfl
@[go_sem] theorem tab57 : tBytes Try.prog 9 = some 16 := by kernel_rfl
@[go_sem] theorem tab58 : tStr Try.prog 9 = true := by kernel_rfl
@[go_sem] theorem tab59 : tElem Try.prog 9 = none := by kernel_rfl
@[go_sem] theorem tab60 : tSize Try.prog 10 = some 1 := by kernel_rfl
@[go_sem] theorem tab61 : tAgg Try.prog 10 = some false := by kernel_rfl
@[go_sem] theorem tab62 : tZero Try.prog 10 = some [.t (.str ⟨#[]⟩)] := by kernel_rfl
@[go_sem] theorem tab63 : tBytes Try.prog 10 = some 16 := by kernel_rfl
@[go_sem] theorem tab64 : tStr Try.prog 10 = true := by kernel_rfl
@[go_sem] theorem tab65 : tElem Try.prog 10 = none := by kernel_rfl
@[go_sem] theorem tab66 : tSize Try.prog 11 = some 1 := by kernel_rfl
@[go_sem] theorem tab67 : tAgg Try.prog 11 = some false := by kernel_rfl
@[go_sem] theorem tab68 : tZero Try.prog 11 = some [.t (.str ⟨#[]⟩)] := by kernel_rfl
@[go_sem] theorem tab69 : tBytes Try.prog 11 = some 16 := by kernel_rfl
@[go_sem] theorem tab70 : tStr Try.prog 11 = true := by kernel_rfl
@[go_sem] theorem tab71 : tElem Try.prog 11 = none := by kernel_rfl
@[go_sem] theorem tab72 : tSize Try.prog 12 = some 1 := by kernel_rfl
@[go_sem] theorem tab73 : tAgg Try.prog 12 = some false := by kernel_rfl
@[go_sem] theorem tab74 : tZero Try.prog 12 = some [.t (.int .u64 0)] := by kernel_rfl
@[go_sem] theorem tab75 : tBytes Try.prog 12 = some 8 := by kernel_rfl
@[go_sem] theorem tab76 : tStr Try.prog 12 = false := by kernel_rfl
@[go_sem] theorem tab77 : tElem Try.prog 12 = none := by kernel_rfl
@[go_sem] theorem tab78 : tInt Try.prog 12 = some .u64 := by kernel_rfl
@[go_sem] theorem tab79 : tSize Try.prog 13 = some 2 := by kernel_rfl
@[go_sem] theorem tab80 : tAgg Try.prog 13 = some true := by kernel_rfl
@[go_sem] theorem tab81 : tZero Try.prog 13 = some [.t (.str ⟨#[]⟩), .t (.int .u64 0)] := by kernel_rfl
@[go_sem] theorem tab82 : tBytes Try.prog 13 = some 24 := by kernel_rfl
@[go_sem] theorem tab83 : tStr Try.prog 13 = false := by kernel_rfl
@[go_sem] theorem tab84 : tField Try.prog 13 0 = some (0, 9) := by kernel_rfl
@[go_sem] theorem tab85 : tField Try.prog 13 1 = some (1, 12) := by kernel_rfl
@[go_sem] theorem tab86 : tFields Try.prog 13 = true := by kernel_rfl
@[go_sem] theorem tab87 : tSize Try.prog 14 = some 2 := by kernel_rfl
@[go_sem] theorem tab88 : tAgg Try.prog 14 = some true := by kernel_rfl
@[go_sem] theorem tab89 : tZero Try.prog 14 = some [.t (.str ⟨#[]⟩), .t (.int .u64 0)] := by kernel_rfl
@[go_sem] theorem tab90 : tBytes Try.prog 14 = some 24 := by kernel_rfl
@[go_sem] theorem tab91 : tStr Try.prog 14 = false := by kernel_rfl
@[go_sem] theorem tab92 : tField Try.prog 14 0 = some (0, 9) := by kernel_rfl
@[go_sem] theorem tab93 : tField Try.prog 14 1 = some (1, 12) := by kernel_rfl
@[go_sem] theorem tab94 : tFields Try.prog 14 = true := by kernel_rfl
@[go_sem] theorem tab95 : tSize Try.prog 20 = some 1 := by kernel_rfl
@[go_sem] theorem tab96 : tAgg Try.prog 20 = some false := by kernel_rfl
@[go_sem] theorem tab97 : tBytes Try.prog 20 = some 16 := by kernel_rfl
@[go_sem] theorem tab98 : tStr Try.prog 20 = false := by kernel_rfl
@[go_sem] theorem tab99 : tIface Try.prog 20 = true := by kernel_rfl
@[go_sem] theorem tab100 : tSize Try.prog 21 = some 1 := by kernel_rfl
@[go_sem] theorem tab101 : tAgg Try.prog 21 = some false := by kernel_rfl
@[go_sem] theorem tab102 : tZero Try.prog 21 = some [.t (.int .i32 0)] := by kernel_rfl
@[go_sem] theorem tab103 : tBytes Try.prog 21 = some 4 := by kernel_rfl
@[go_sem] theorem tab104 : tStr Try.prog 21 = false := by kernel_rfl
@[go_sem] theorem tab105 : tElem Try.prog 21 = none := by kernel_rfl
@[go_sem] theorem tab106 : tInt Try.prog 21 = some .i32 := by kernel_rfl
@[go_sem] theorem tab107 : tSize Try.prog 22 = some 1 := by kernel_rfl
@[go_sem] theorem tab108 : tAgg Try.prog 22 = some false := by kernel_rfl
@[go_sem] theorem tab109 : tZero Try.prog 22 = some [.nil0] := by kernel_rfl
@[go_sem] theorem tab110 : tBytes Try.prog 22 = some 24 := by kernel_rfl
@[go_sem] theorem tab111 : tElem Try.prog 22 = some 9 := by kernel_rfl
@[go_sem] theorem tab112 : tStr Try.prog 22 = false := by kernel_rfl
@[go_sem] theorem tab113 : tSize Try.prog 30 = some 1 := by kernel_rfl
@[go_sem] theorem tab114 : tAgg Try.prog 30 = some false := by kernel_rfl
@[go_sem] theorem tab115 : tZero Try.prog 30 = some [.nil0] := by kernel_rfl
@[go_sem] theorem tab116 : tBytes Try.prog 30 = some 24 := by kernel_rfl
@[go_sem] theorem tab117 : tElem Try.prog 30 = some 32 := by kernel_rfl
@[go_sem] theorem tab118 : tStr Try.prog 30 = false := by kernel_rfl
@[go_sem] theorem tab119 : tSize Try.prog 31 = some 3 := by kernel_rfl
@[go_sem] theorem tab120 : tAgg Try.prog 31 = some true := by kernel_rfl
@[go_sem] theorem tab121 : tZero Try.prog 31 = some [.t (.int .i64 0), .t (.str ⟨#[]⟩), .nil0] := by kernel_rfl
@[go_sem] theorem tab122 : tBytes Try.prog 31 = some 48 := by kernel_rfl
@[go_sem] theorem tab123 : tStr Try.prog 31 = false := by kernel_rfl
@[go_sem] theorem tab124 : tField Try.prog 31 0 = some (0, 3) := by kernel_rfl
@[go_sem] theorem tab125 : tField Try.prog 31 1 = some (1, 9) := by kernel_rfl
@[go_sem] theorem tab126 : tField Try.prog 31 2 = some (2, 30) := by kernel_rfl
@[go_sem] theorem tab127 : tFields Try.prog 31 = true := by kernel_rfl
@[go_sem] theorem tab128 : tSize Try.prog 32 = some 3 := by kernel_rfl
@[go_sem] theorem tab129 : tAgg Try.prog 32 = some true := by kernel_rfl
@[go_sem] theorem tab130 : tZero Try.prog 32 = some [.t (.int .i64 0), .t (.str ⟨#[]⟩), .nil0] := by kernel_rfl
@[go_sem] theorem tab131 : tBytes Try.prog 32 = some 48 := by kernel_rfl
@[go_sem] theorem tab132 : tStr Try.prog 32 = false := by kernel_rfl
@[go_sem] theorem tab133 : tField Try.prog 32 0 = some (0, 3) := by kernel_rfl
@[go_sem] theorem tab134 : tField Try.prog 32 1 = some (1, 9) := by kernel_rfl
@[go_sem] theorem tab135 : tField Try.prog 32 2 = some (2, 30) := by kernel_rfl
@[go_sem] theorem tab136 : tFields Try.prog 32 = true := by kernel_rfl
@[go_sem] theorem tab137 : tSize Try.prog 35 = some 1 := by kernel_rfl
@[go_sem] theorem tab138 : tAgg Try.prog 35 = some false := by kernel_rfl
@[go_sem] theorem tab139 : tZero Try.prog 35 = some [.nil0] := by kernel_rfl
@[go_sem] theorem tab140 : tBytes Try.prog 35 = some 24 := by kernel_rfl
@[go_sem] theorem tab141 : tElem Try.prog 35 = some 37 := by kernel_rfl
@[go_sem] theorem tab142 : tStr Try.prog 35 = false := by kernel_rfl
@[go_sem] theorem tab143 : tSize Try.prog 36 = some 3 := by kernel_rfl
@[go_sem] theorem tab144 : tAgg Try.prog 36 = some true := by kernel_rfl
@[go_sem] theorem tab145 : tZero Try.prog 36 = some [.t (.int .i64 0), .t (.str ⟨#[]⟩), .nil0] := by kernel_rfl
@[go_sem] theorem tab146 : tBytes Try.prog 36 = some 48 := by kernel_rfl
@[go_sem] theorem tab147 : tStr Try.prog 36 = false := by kernel_rfl
@[go_sem] theorem tab148 : tField Try.prog 36 0 = some (0, 3) := by kernel_rfl
@[go_sem] theorem tab149 : tField Try.prog 36 1 = some (1, 9) := by kernel_rfl
@[go_sem] theorem tab150 : tField Try.prog 36 2 = some (2, 35) := by kernel_rfl
@[go_sem] theorem tab151 : tFields Try.prog 36 = true := by kernel_rfl
@[go_sem] theorem tab152 : tSize Try.prog 37 = some 3 := by kernel_rfl
@[go_sem] theorem tab153 : tAgg Try.prog 37 = some true := by kernel_rfl
@[go_sem] theorem tab154 : tZero Try.prog 37 = some [.t (.int .i64 0), .t (.str ⟨#[]⟩), .nil0] := by kernel_rfl
@[go_sem] theorem tab155 : tBytes Try.prog 37 = some 48 := by kernel_rfl
@[go_sem] theorem tab156 : tStr Try.prog 37 = false := by kernel_rfl
@[go_sem] theorem tab157 : tField Try.prog 37 0 = some (0, 3) := by kernel_rfl
@[go_sem] theorem tab158 : tField Try.prog 37 1 = some (1, 9) := by kernel_rfl
@[go_sem] theorem tab159 : tField Try.prog 37 2 = some (2, 35) := by kernel_rfl
@[go_sem] theorem tab160 : tFields Try.prog 37 = true := by kernel_rfl
@[go_sem] theorem tab161 : tSize Try.prog 48 = some 1 := by kernel_rfl
@[go_sem] theorem tab162 : tAgg Try.prog 48 = some false := by kernel_rfl
@[go_sem] theorem tab163 : tZero Try.prog 48 = some [.nil0] := by kernel_rfl
@[go_sem] theorem tab164 : tBytes Try.prog 48 = some 24 := by kernel_rfl
@[go_sem] theorem tab165 : tElem Try.prog 48 = some 82 := by kernel_rfl
@[go_sem] theorem tab166 : tStr Try.prog 48 = false := by kernel_rfl
@[go_sem] theorem tab167 : tSize Try.prog 52 = some 1 := by kernel_rfl
@[go_sem] theorem tab168 : tAgg Try.prog 52 = some false := by kernel_rfl
@[go_sem] theorem tab169 : tZero Try.prog 52 = some [.nil0] := by kernel_rfl
@[go_sem] theorem tab170 : tBytes Try.prog 52 = some 24 := by kernel_rfl
@[go_sem] theorem tab171 : tElem Try.prog 52 = some 84 := by kernel_rfl
@[go_sem] theorem tab172 : tStr Try.prog 52 = false := by kernel_rfl
@[go_sem] theorem tab173 : tSize Try.prog 60 = some 1 := by kernel_rfl
@[go_sem] theorem tab174 : tAgg Try.prog 60 = some false := by kernel_rfl
@[go_sem] theorem tab175 : tZero Try.prog 60 = some [.nil0] := by kernel_rfl
@[go_sem] theorem tab176 : tBytes Try.prog 60 = some 24 := by kernel_rfl
@[go_sem] theorem tab177 : tElem Try.prog 60 = some 133 := by kernel_rfl
@[go_sem] theorem tab178 : tStr Try.prog 60 = false := by kernel_rfl
@[go_sem] theorem tab179 : tSize Try.prog 61 = some 1 := by kernel_rfl
@[go_sem] theorem tab180 : tAgg Try.prog 61 = some true := by kernel_rfl
@[go_sem] theorem tab181 : tZero Try.prog 61 = some [.nil0] := by kernel_rfl
@[go_sem] theorem tab182 : tBytes Try.prog 61 = some 24 := by kernel_rfl
@[go_sem] theorem tab183 : tStr Try.prog 61 = false := by kernel_rfl
@[go_sem] theorem tab184 : tField Try.prog 61 0 = some (0, 60) := by kernel_rfl
@[go_sem] theorem tab185 : tFields Try.prog 61 = true := by kernel_rfl
@[go_sem] theorem tab186 : tSize Try.prog 62 = some 1 := by kernel_rfl
@[go_sem] theorem tab187 : tAgg Try.prog 62 = some true := by kernel_rfl
@[go_sem] theorem tab188 : tZero Try.prog 62 = some [.nil0] := by kernel_rfl
@[go_sem] theorem tab189 : tBytes Try.prog 62 = some 24 := by kernel_rfl
@[go_sem] theorem tab190 : tStr Try.prog 62 = false := by kernel_rfl
@[go_sem] theorem tab191 : tField Try.prog 62 0 = some (0, 60) := by kernel_rfl
@[go_sem] theorem tab192 : tFields Try.prog 62 = true := by kernel_rfl
@[go_sem] theorem tab193 : tSize Try.prog 65 = some 1 := by kernel_rfl
@[go_sem] theorem tab194 : tAgg Try.prog 65 = some false := by kernel_rfl
@[go_sem] theorem tab195 : tZero Try.prog 65 = some [.nil0] := by kernel_rfl
@[go_sem] theorem tab196 : tBytes Try.prog 65 = some 24 := by kernel_rfl
@[go_sem] theorem tab197 : tElem Try.prog 65 = some 137 := by kernel_rfl
@[go_sem] theorem tab198 : tStr Try.prog 65 = false := by kernel_rfl
@[go_sem] theorem tab199 : tSize Try.prog 66 = some 1 := by kernel_rfl
@[go_sem] theorem tab200 : tAgg Try.prog 66 = some true := by kernel_rfl
@[go_sem] theorem tab201 : tZero Try.prog 66 = some [.nil0] := by kernel_rfl
@[go_sem] theorem tab202 : tBytes Try.prog 66 = some 24 := by kernel_rfl
@[go_sem] theorem tab203 : tStr Try.prog 66 = false := by kernel_rfl
@[go_sem] theorem tab204 : tField Try.prog 66 0 = some (0, 65) := by kernel_rfl
@[go_sem] theorem tab205 : tFields Try.prog 66 = true := by kernel_rfl
@[go_sem] theorem tab206 : tSize Try.prog 67 = some 1 := by kernel_rfl
@[go_sem] theorem tab207 : tAgg Try.prog 67 = some true := by kernel_rfl
@[go_sem] theorem tab208 : tZero Try.prog 67 = some [.nil0] := by kernel_rfl
@[go_sem] theorem tab209 : tBytes Try.prog 67 = some 24 := by kernel_rfl
@[go_sem] theorem tab210 : tStr Try.prog 67 = false := by kernel_rfl
@[go_sem] theorem tab211 : tField Try.prog 67 0 = some (0, 65) := by kernel_rfl
@[go_sem] theorem tab212 : tFields Try.prog 67 = true := by kernel_rfl
@[go_sem] theorem tab213 : tSize Try.prog 74 = some 1 := by kernel_rfl
@[go_sem] theorem tab214 : tAgg Try.prog 74 = some false := by kernel_rfl
@[go_sem] theorem tab215 : tZero Try.prog 74 = some [.nil0] := by kernel_rfl
@[go_sem] theorem tab216 : tBytes Try.prog 74 = some 24 := by kernel_rfl
@[go_sem] theorem tab217 : tElem Try.prog 74 = some 5 := by kernel_rfl
@[go_sem] theorem tab218 : tStr Try.prog 74 = false := by kernel_rfl
@[go_sem] theorem tab219 : tSize Try.prog 81 = some 4 := by kernel_rfl
@[go_sem] theorem tab220 : tAgg Try.prog 81 = some true := by kernel_rfl
@[go_sem] theorem tab221 : tZero Try.prog 81 = some [.t (.str ⟨#[]⟩), .t (.int .i64 0), .t (.str ⟨#[]⟩), .nil0] := by kernel_rfl
@[go_sem] theorem tab222 : tBytes Try.prog 81 = some 64 := by kernel_rfl
@[go_sem] theorem tab223 : tStr Try.prog 81 = false := by kernel_rfl
@[go_sem] theorem tab224 : tField Try.prog 81 0 = some (0, 9) := by kernel_rfl
@[go_sem] theorem tab225 : tField Try.prog 81 1 = some (1, 32) := by kernel_rfl
@[go_sem] theorem tab226 : tFields Try.prog 81 = true := by kernel_rfl
@[go_sem] theorem tab227 : tSize Try.prog 82 = some 4 := by kernel_rfl
@[go_sem] theorem tab228 : tAgg Try.prog 82 = some true := by kernel_rfl
@[go_sem] theorem tab229 : tZero Try.prog 82 = some [.t (.str ⟨#[]⟩), .t (.int .i64 0), .t (.str ⟨#[]⟩), .nil0] := by kernel_rfl
@[go_sem] theorem tab230 : tBytes Try.prog 82 = some 64 := by kernel_rfl
@[go_sem] theorem tab231 : tStr Try.prog 82 = false := by kernel_rfl
@[go_sem] theorem tab232 : tField Try.prog 82 0 = some (0, 9) := by kernel_rfl
@[go_sem] theorem tab233 : tField Try.prog 82 1 = some (1, 32) := by kernel_rfl
@[go_sem] theorem tab234 : tFields Try.prog 82 = true := by kernel_rfl
@[go_sem] theorem tab235 : tSize Try.prog 83 = some 4 := by kernel_rfl
@[go_sem] theorem tab236 : tAgg Try.prog 83 = some true := by kernel_rfl
@[go_sem] theorem tab237 : tZero Try.prog 83 = some [.t (.str ⟨#[]⟩), .t (.int .i64 0), .t (.str ⟨#[]⟩), .nil0] := by kernel_rfl
@[go_sem] theorem tab238 : tBytes Try.prog 83 = some 64 := by kernel_rfl
@[go_sem] theorem tab239 : tStr Try.prog 83 = false := by kernel_rfl
@[go_sem] theorem tab240 : tField Try.prog 83 0 = some (0, 9) := by kernel_rfl
@[go_sem] theorem tab241 : tField Try.prog 83 1 = some (1, 37) := by kernel_rfl
@[go_sem] theorem tab242 : tFields Try.prog 83 = true := by kernel_rfl
@[go_sem] theorem tab243 : tSize Try.prog 84 = some 4 := by kernel_rfl
@[go_sem] theorem tab244 : tAgg Try.prog 84 = some true := by kernel_rfl
@[go_sem] theorem tab245 : tZero Try.prog 84 = some [.t (.str ⟨#[]⟩), .t (.int .i64 0), .t (.str ⟨#[]⟩), .nil0] := by kernel_rfl
@[go_sem] theorem tab246 : tBytes Try.prog 84 = some 64 := by kernel_rfl
@[go_sem] theorem tab247 : tStr Try.prog 84 = false := by kernel_rfl
@[go_sem] theorem tab248 : tField Try.prog 84 0 = some (0, 9) := by kernel_rfl
@[go_sem] theorem tab249 : tField Try.prog 84 1 = some (1, 37) := by kernel_rfl
@[go_sem] theorem tab250 : tFields Try.prog 84 = true := by kernel_rfl
@[go_sem] theorem tab251 : tSize Try.prog 90 = some 1 := by kernel_rfl
@[go_sem] theorem tab252 : tAgg Try.prog 90 = some false := by kernel_rfl
@[go_sem] theorem tab253 : tZero Try.prog 90 = some [.nil0] := by kernel_rfl
@[go_sem] theorem tab254 : tBytes Try.prog 90 = some 24 := by kernel_rfl
@[go_sem] theorem tab255 : tElem Try.prog 90 = some 4 := by kernel_rfl
@[go_sem] theorem tab256 : tStr Try.prog 90 = false := by kernel_rfl
@[go_sem] theorem tab257 : tSize Try.prog 91 = some 1 := by kernel_rfl
@[go_sem] theorem tab258 : tAgg Try.prog 91 = some false := by kernel_rfl
@[go_sem] theorem tab259 : tZero Try.prog 91 = some [.nil0] := by kernel_rfl
@[go_sem] theorem tab260 : tBytes Try.prog 91 = some 24 := by kernel_rfl
@[go_sem] theorem tab261 : tElem Try.prog 91 = some 90 := by kernel_rfl
@[go_sem] theorem tab262 : tStr Try.prog 91 = false := by kernel_rfl
@[go_sem] theorem tab263 : tSize Try.prog 92 = some 2 := by kernel_rfl
@[go_sem] theorem tab264 : tAgg Try.prog 92 = some true := by kernel_rfl
@[go_sem] theorem tab265 : tZero Try.prog 92 = some [.nil0, .nil0] := by kernel_rfl
@[go_sem] theorem tab266 : tBytes Try.prog 92 = some 48 := by kernel_rfl
@[go_sem] theorem tab267 : tStr Try.prog 92 = false := by kernel_rfl
@[go_sem] theorem tab268 : tField Try.prog 92 0 = some (0, 91) := by kernel_rfl
@[go_sem] theorem tab269 : tField Try.prog 92 1 = some (1, 91) := by kernel_rfl
@[go_sem] theorem tab270 : tFields Try.prog 92 = true := by kernel_rfl
@[go_sem] theorem tab271 : tSize Try.prog 93 = some 2 := by kernel_rfl
@[go_sem] theorem tab272 : tAgg Try.prog 93 = some true := by kernel_rfl
@[go_sem] theorem tab273 : tZero Try.prog 93 = some [.nil0, .nil0] := by kernel_rfl
@[go_sem] theorem tab274 : tBytes Try.prog 93 = some 48 := by kernel_rfl
@[go_sem] theorem tab275 : tStr Try.prog 93 = false := by kernel_rfl
@[go_sem] theorem tab276 : tField Try.prog 93 0 = some (0, 91) := by kernel_rfl
@[go_sem] theorem tab277 : tField Try.prog 93 1 = some (1, 91) := by kernel_rfl
@[go_sem] theorem tab278 : tFields Try.prog 93 = true := by kernel_rfl
@[go_sem] theorem tab279 : tSize Try.prog 94 = some 1 := by kernel_rfl
@[go_sem] theorem tab280 : tAgg Try.prog 94 = some false := by kernel_rfl
@[go_sem] theorem tab281 : tZero Try.prog 94 = some [.nil0] := by kernel_rfl
@[go_sem] theorem tab282 : tBytes Try.prog 94 = some 24 := by kernel_rfl
@[go_sem] theorem tab283 : tElem Try.prog 94 = some 3 := by kernel_rfl
@[go_sem] theorem tab284 : tStr Try.prog 94 = false := by kernel_rfl
@[go_sem] theorem tab285 : tSize Try.prog 105 = some 1 := by kernel_rfl
@[go_sem] theorem tab286 : tAgg Try.prog 105 = some false := by kernel_rfl
@[go_sem] theorem tab287 : tZero Try.prog 105 = some [.nil0] := by kernel_rfl
@[go_sem] theorem tab288 : tBytes Try.prog 105 = some 24 := by kernel_rfl
@[go_sem] theorem tab289 : tElem Try.prog 105 = some 22 := by kernel_rfl
@[go_sem] theorem tab290 : tStr Try.prog 105 = false := by kernel_rfl
@[go_sem] theorem tab291 : tSize Try.prog 111 = some 1 := by kernel_rfl
@[go_sem] theorem tab292 : tAgg Try.prog 111 = some false := by kernel_rfl
@[go_sem] theorem tab293 : tBytes Try.prog 111 = some 16 := by kernel_rfl
@[go_sem] theorem tab294 : tStr Try.prog 111 = false := by kernel_rfl
@[go_sem] theorem tab295 : tIface Try.prog 111 = true := by kernel_rfl
@[go_sem] theorem tab296 : tSize Try.prog 112 = some 1 := by kernel_rfl
@[go_sem] theorem tab297 : tAgg Try.prog 112 = some false := by kernel_rfl
@[go_sem] theorem tab298 : tBytes Try.prog 112 = some 16 := by kernel_rfl
@[go_sem] theorem tab299 : tStr Try.prog 112 = false := by kernel_rfl
@[go_sem] theorem tab300 : tIface Try.prog 112 = true := by kernel_rfl
@[go_sem] theorem tab301 : tSize Try.prog 121 = some 1 := by kernel_rfl
@[go_sem] theorem tab302 : tAgg Try.prog 121 = some false := by kernel_rfl
@[go_sem] theorem tab303 : tZero Try.prog 121 = some [.nil0] := by kernel_rfl
@[go_sem] theorem tab304 : tBytes Try.prog 121 = some 24 := by kernel_rfl
@[go_sem] theorem tab305 : tElem Try.prog 121 = some 126 := by kernel_rfl
@[go_sem] theorem tab306 : tStr Try.prog 121 = false := by kernel_rfl
@[go_sem] theorem tab307 : tSize Try.prog 125 = some 3 := by kernel_rfl
@[go_sem] theorem tab308 : tAgg Try.prog 125 = some true := by kernel_rfl
@[go_sem] theorem tab309 : tZero Try.prog 125 = some [.t (.int .i64 0), .t (.str ⟨#[]⟩), .nil0] := by kernel_rfl
@[go_sem] theorem tab310 : tBytes Try.prog 125 = some 48 := by kernel_rfl
@[go_sem] theorem tab311 : tStr Try.prog 125 = false := by kernel_rfl
@[go_sem] theorem tab312 : tField Try.prog 125 0 = some (0, 3) := by kernel_rfl
@[go_sem] theorem tab313 : tField Try.prog 125 1 = some (1, 9) := by kernel_rfl
@[go_sem] theorem tab314 : tField Try.prog 125 2 = some (2, 94) := by kernel_rfl
@[go_sem] theorem tab315 : tFields Try.prog 125 = true := by kernel_rfl
@[go_sem] theorem tab316 : tSize Try.prog 126 = some 3 := by kernel_rfl
@[go_sem] theorem tab317 : tAgg Try.prog 126 = some true := by kernel_rfl
@[go_sem] theorem tab318 : tZero Try.prog 126 = some [.t (.int .i64 0), .t (.str ⟨#[]⟩), .nil0] := by kernel_rfl
@[go_sem] theorem tab319 : tBytes Try.prog 126 = some 48 := by kernel_rfl
@[go_sem] theorem tab320 : tStr Try.prog 126 = false := by kernel_rfl
@[go_sem] theorem tab321 : tField Try.prog 126 0 = some (0, 3) := by kernel_rfl
@[go_sem] theorem tab322 : tField Try.prog 126 1 = some (1, 9) := by kernel_rfl
@[go_sem] theorem tab323 : tField Try.prog 126 2 = some (2, 94) := by kernel_rfl
@[go_sem] theorem tab324 : tFields Try.prog 126 = true := by kernel_rfl
@[go_sem] theorem tab325 : tSize Try.prog 127 = some 1 := by kernel_rfl
@[go_sem] theorem tab326 : tAgg Try.prog 127 = some false := by kernel_rfl
@[go_sem] theorem tab327 : tZero Try.prog 127 = some [.nil0] := by kernel_rfl
@[go_sem] theorem tab328 : tBytes Try.prog 127 = some 24 := by kernel_rfl
@[go_sem] theorem tab329 : tElem Try.prog 127 = some 94 := by kernel_rfl
@[go_sem] theorem tab330 : tStr Try.prog 127 = false := by kernel_rfl
@[go_sem] theorem tab331 : tSize Try.prog 128 = some 2 := by kernel_rfl
@[go_sem] theorem tab332 : tAgg Try.prog 128 = some true := by kernel_rfl
@[go_sem] theorem tab333 : tZero Try.prog 128 = some [.nil0, .nil0] := by kernel_rfl
@[go_sem] theorem tab334 : tBytes Try.prog 128 = some 48 := by kernel_rfl
@[go_sem] theorem tab335 : tStr Try.prog 128 = false := by kernel_rfl
@[go_sem] theorem tab336 : tField Try.prog 128 0 = some (0, 35) := by kernel_rfl
@[go_sem] theorem tab337 : tField Try.prog 128 1 = some (1, 127) := by kernel_rfl
@[go_sem] theorem tab338 : tFields Try.prog 128 = true := by kernel_rfl
@[go_sem] theorem tab339 : tSize Try.prog 129 = some 2 := by kernel_rfl
@[go_sem] theorem tab340 : tAgg Try.prog 129 = some true := by kernel_rfl
@[go_sem] theorem tab341 : tZero Try.prog 129 = some [.nil0, .nil0] := by kernel_rfl
@[go_sem] theorem tab342 : tBytes Try.prog 129 = some 48 := by kernel_rfl
@[go_sem] theorem tab343 : tStr Try.prog 129 = false := by kernel_rfl
@[go_sem] theorem tab344 : tField Try.prog 129 0 = some (0, 35) := by kernel_rfl
@[go_sem] theorem tab345 : tField Try.prog 129 1 = some (1, 127) := by kernel_rfl
@[go_sem] theorem tab346 : tFields Try.prog 129 = true := by kernel_rfl
@[go_sem] theorem tab347 : tSize Try.prog 132 = some 7 := by kernel_rfl
@[go_sem] theorem tab348 : tAgg Try.prog 132 = some true := by kernel_rfl
@[go_sem] theorem tab349 : tZero Try.prog 132 = some [.t (.str ⟨#[]⟩), .t (.str ⟨#[]⟩), .nil0, .nil0, .t (.int .i64 0), .t (.str ⟨#[]⟩), .nil0] := by kernel_rfl
@[go_sem] theorem tab350 : tBytes Try.prog 132 = some 128 := by kernel_rfl
@[go_sem] theorem tab351 : tStr Try.prog 132 = false := by kernel_rfl
@[go_sem] theorem tab352 : tField Try.prog 132 0 = some (0, 9) := by kernel_rfl
@[go_sem] theorem tab353 : tField Try.prog 132 1 = some (1, 9) := by kernel_rfl
@[go_sem] theorem tab354 : tField Try.prog 132 2 = some (2, 22) := by kernel_rfl
@[go_sem] theorem tab355 : tField Try.prog 132 3 = some (3, 22) := by kernel_rfl
@[go_sem] theorem tab356 : tField Try.prog 132 4 = some (4, 32) := by kernel_rfl
@[go_sem] theorem tab357 : tFields Try.prog 132 = true := by kernel_rfl
@[go_sem] theorem tab358 : tSize Try.prog 133 = some 7 := by kernel_rfl
@[go_sem] theorem tab359 : tAgg Try.prog 133 = some true := by kernel_rfl
@[go_sem] theorem tab360 : tZero Try.prog 133 = some [.t (.str ⟨#[]⟩), .t (.str ⟨#[]⟩), .nil0, .nil0, .t (.int .i64 0), .t (.str ⟨#[]⟩), .nil0] := by kernel_rfl
@[go_sem] theorem tab361 : tBytes Try.prog 133 = some 128 := by kernel_rfl
@[go_sem] theorem tab362 : tStr Try.prog 133 = false := by kernel_rfl
@[go_sem] theorem tab363 : tField Try.prog 133 0 = some (0, 9) := by kernel_rfl
@[go_sem] theorem tab364 : tField Try.prog 133 1 = some (1, 9) := by kernel_rfl
@[go_sem] theorem tab365 : tField Try.prog 133 2 = some (2, 22) := by kernel_rfl
@[go_sem] theorem tab366 : tField Try.prog 133 3 = some (3, 22) := by kernel_rfl
@[go_sem] theorem tab367 : tField Try.prog 133 4 = some (4, 32) := by kernel_rfl
@[go_sem] theorem tab368 : tFields Try.prog 133 = true := by kernel_rfl
@[go_sem] theorem tab369 : tSize Try.prog 136 = some 7 := by kernel_rfl
@[go_sem] theorem tab370 : tAgg Try.prog 136 = some true := by kernel_rfl
@[go_sem] theorem tab371 : tZero Try.prog 136 = some [.t (.str ⟨#[]⟩), .t (.str ⟨#[]⟩), .nil0, .nil0, .t (.int .i64 0), .t (.str ⟨#[]⟩), .nil0] := by kernel_rfl
@[go_sem] theorem tab372 : tBytes Try.prog 136 = some 128 := by kernel_rfl
@[go_sem] theorem tab373 : tStr Try.prog 136 = false := by kernel_rfl
@[go_sem] theorem tab374 : tField Try.prog 136 0 = some (0, 9) := by kernel_rfl
@[go_sem] theorem tab375 : tField Try.prog 136 1 = some (1, 9) := by kernel_rfl
@[go_sem] theorem tab376 : tField Try.prog 136 2 = some (2, 22) := by kernel_rfl
@[go_sem] theorem tab377 : tField Try.prog 136 3 = some (3, 22) := by kernel_rfl
@[go_sem] theorem tab378 : tField Try.prog 136 4 = some (4, 37) := by kernel_rfl
@[go_sem] theorem tab379 : tFields Try.prog 136 = true := by kernel_rfl
@[go_sem] theorem tab380 : tSize Try.prog 137 = some 7 := by kernel_rfl
@[go_sem] theorem tab381 : tAgg Try.prog 137 = some true := by kernel_rfl
@[go_sem] theorem tab382 : tZero Try.prog 137 = some [.t (.str ⟨#[]⟩), .t (.str ⟨#[]⟩), .nil0, .nil0, .t (.int .i64 0), .t (.str ⟨#[]⟩), .nil0] := by kernel_rfl
@[go_sem] theorem tab383 : tBytes Try.prog 137 = some 128 := by kernel_rfl
@[go_sem] theorem tab384 : tStr Try.prog 137 = false := by kernel_rfl
@[go_sem] theorem tab385 : tField Try.prog 137 0 = some (0, 9) := by kernel_rfl
@[go_sem] theorem tab386 : tField Try.prog 137 1 = some (1, 9) := by kernel_rfl
@[go_sem] theorem tab387 : tField Try.prog 137 2 = some (2, 22) := by kernel_rfl
@[go_sem] theorem tab388 : tField Try.prog 137 3 = some (3, 22) := by kernel_rfl
@[go_sem] theorem tab389 : tField Try.prog 137 4 = some (4, 37) := by kernel_rfl
@[go_sem] theorem tab390 : tFields Try.prog 137 = true := by kernel_rfl
@[go_sem] theorem tab391 : tSize Try.prog 164 = some 1 := by kernel_rfl
@[go_sem] theorem tab392 : tAgg Try.prog 164 = some false := by kernel_rfl
@[go_sem] theorem tab393 : tZero Try.prog 164 = some [.t (.int .u32 0)] := by kernel_rfl
@[go_sem] theorem tab394 : tBytes Try.prog 164 = some 4 := by kernel_rfl
@[go_sem] theorem tab395 : tStr Try.prog 164 = false := by kernel_rfl
@[go_sem] theorem tab396 : tElem Try.prog 164 = none := by kernel_rfl
@[go_sem] theorem tab397 : tInt Try.prog 164 = some .u32 := by kernel_rfl
@[go_sem] theorem tab398 : tSize Try.prog 165 = some 1 := by kernel_rfl
@[go_sem] theorem tab399 : tAgg Try.prog 165 = some false := by kernel_rfl
@[go_sem] theorem tab400 : tZero Try.prog 165 = some [.t (.int .u8 0)] := by kernel_rfl
@[go_sem] theorem tab401 : tBytes Try.prog 165 = some 1 := by kernel_rfl
@[go_sem] theorem tab402 : tStr Try.prog 165 = false := by kernel_rfl
@[go_sem] theorem tab403 : tElem Try.prog 165 = none := by kernel_rfl
@[go_sem] theorem tab404 : tInt Try.prog 165 = some .u8 := by kernel_rfl
@[go_sem] theorem tab405 : tSize Try.prog 166 = some 1 := by kernel_rfl
@[go_sem] theorem tab406 : tAgg Try.prog 166 = some false := by kernel_rfl
@[go_sem] theorem tab407 : tZero Try.prog 166 = some [.t (.int .u8 0)] := by kernel_rfl
@[go_sem] theorem tab408 : tBytes Try.prog 166 = some 1 := by kernel_rfl
@[go_sem] theorem tab409 : tStr Try.prog 166 = false := by kernel_rfl
@[go_sem] theorem tab410 : tElem Try.prog 166 = none := by kernel_rfl
@[go_sem] theorem tab411 : tInt Try.prog 166 = some .u8 := by kernel_rfl
@[go_sem] theorem tab412 : tSize Try.prog 168 = some 1 := by kernel_rfl
@[go_sem] theorem tab413 : tAgg Try.prog 168 = some false := by kernel_rfl
@[go_sem] theorem tab414 : tZero Try.prog 168 = some [.t (.int .i32 0)] := by kernel_rfl
@[go_sem] theorem tab415 : tBytes Try.prog 168 = some 4 := by kernel_rfl
@[go_sem] theorem tab416 : tStr Try.prog 168 = false := by kernel_rfl
@[go_sem] theorem tab417 : tElem Try.prog 168 = none := by kernel_rfl
@[go_sem] theorem tab418 : tInt Try.prog 168 = some .i32 := by kernel_rfl
@[go_sem] theorem tab419 : tSize Try.prog 169 = some 1 := by kernel_rfl
@[go_sem] theorem tab420 : tAgg Try.prog 169 = some false := by kernel_rfl
@[go_sem] theorem tab421 : tZero Try.prog 169 = some [.t (.int .i32 0)] := by kernel_rfl
@[go_sem] theorem tab422 : tBytes Try.prog 169 = some 4 := by kernel_rfl
@[go_sem] theorem tab423 : tStr Try.prog 169 = false := by kernel_rfl
@[go_sem] theorem tab424 : tElem Try.prog 169 = none := by kernel_rfl
@[go_sem] theorem tab425 : tInt Try.prog 169 = some .i32 := by kernel_rfl
end Go.Proofs.Ytlooiifgbiedeaa
