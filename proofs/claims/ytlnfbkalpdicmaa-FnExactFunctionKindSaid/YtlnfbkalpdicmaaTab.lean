/- Facts on the seat's types, for walks by rewriting. -/
import Derived.Test.YtlnfbkalpdicmaaProg
import Derived.Test.YtlnfbkalpdicmaaV26
import Derived.KernelRfl
namespace Go.Proofs.Ytlnfbkalpdicmaa
open Go Go.VL
theorem mixed : Try.prog.follows .mixedOrders = true := by kernel_rfl
@[go_sem] theorem tab0 : tSize Try.prog 2 = some 1 := by kernel_rfl
@[go_sem] theorem tab1 : tAgg Try.prog 2 = some false := by kernel_rfl
@[go_sem] theorem tab2 : tZero Try.prog 2 = some [.t (.int .i64 0)] := by kernel_rfl
@[go_sem] theorem tab3 : tBytes Try.prog 2 = some 8 := by kernel_rfl
@[go_sem] theorem tab4 : tStr Try.prog 2 = false := by kernel_rfl
@[go_sem] theorem tab5 : tInt Try.prog 2 = some .i64 := by kernel_rfl
@[go_sem] theorem tab6 : tSize Try.prog 3 = some 1 := by kernel_rfl
@[go_sem] theorem tab7 : tAgg Try.prog 3 = some false := by kernel_rfl
@[go_sem] theorem tab8 : tZero Try.prog 3 = some [.t (.int .i64 0)] := by kernel_rfl
@[go_sem] theorem tab9 : tBytes Try.prog 3 = some 8 := by kernel_rfl
@[go_sem] theorem tab10 : tStr Try.prog 3 = false := by kernel_rfl
@[go_sem] theorem tab11 : tInt Try.prog 3 = some .i64 := by kernel_rfl
@[go_sem] theorem tab12 : tSize Try.prog 4 = some 1 := by kernel_rfl
@[go_sem] theorem tab13 : tAgg Try.prog 4 = some false := by kernel_rfl
@[go_sem] theorem tab14 : tZero Try.prog 4 = some [.t (.bool false)] := by kernel_rfl
@[go_sem] theorem tab15 : tBytes Try.prog 4 = some 1 := by kernel_rfl
@[go_sem] theorem tab16 : tStr Try.prog 4 = false := by kernel_rfl
@[go_sem] theorem tab17 : tBool Try.prog 4 = true := by kernel_rfl
@[go_sem] theorem tab18 : tSize Try.prog 5 = some 1 := by kernel_rfl
@[go_sem] theorem tab19 : tAgg Try.prog 5 = some false := by kernel_rfl
@[go_sem] theorem tab20 : tZero Try.prog 5 = some [.t (.int .u8 0)] := by kernel_rfl
@[go_sem] theorem tab21 : tBytes Try.prog 5 = some 1 := by kernel_rfl
@[go_sem] theorem tab22 : tStr Try.prog 5 = false := by kernel_rfl
@[go_sem] theorem tab23 : tInt Try.prog 5 = some .u8 := by kernel_rfl
@[go_sem] theorem tab24 : tSize Try.prog 6 = some 1 := by kernel_rfl
@[go_sem] theorem tab25 : tAgg Try.prog 6 = some false := by kernel_rfl
@[go_sem] theorem tab26 : tZero Try.prog 6 = some [.t (.int .u8 0)] := by kernel_rfl
@[go_sem] theorem tab27 : tBytes Try.prog 6 = some 1 := by kernel_rfl
@[go_sem] theorem tab28 : tStr Try.prog 6 = false := by kernel_rfl
@[go_sem] theorem tab29 : tInt Try.prog 6 = some .u8 := by kernel_rfl
@[go_sem] theorem tab30 : tSize Try.prog 7 = some 4 := by kernel_rfl
@[go_sem] theorem tab31 : tAgg Try.prog 7 = some true := by kernel_rfl
@[go_sem] theorem tab32 : tZero Try.prog 7 = some [.t (.int .i64 0), .t (.int .i64 0), .t (.bool false), .t (.int .u8 0)] := by kernel_rfl
@[go_sem] theorem tab33 : tBytes Try.prog 7 = some 24 := by kernel_rfl
@[go_sem] theorem tab34 : tStr Try.prog 7 = false := by kernel_rfl
@[go_sem] theorem tab35 : tField Try.prog 7 0 = some (0, 2) := by kernel_rfl
@[go_sem] theorem tab36 : tField Try.prog 7 1 = some (1, 3) := by kernel_rfl
@[go_sem] theorem tab37 : tField Try.prog 7 2 = some (2, 4) := by kernel_rfl
@[go_sem] theorem tab38 : tField Try.prog 7 3 = some (3, 6) := by kernel_rfl
@[go_sem] theorem tab39 : tFields Try.prog 7 = true := by kernel_rfl
@[go_sem] theorem tab40 : tSize Try.prog 8 = some 4 := by kernel_rfl
@[go_sem] theorem tab41 : tAgg Try.prog 8 = some true := by kernel_rfl
@[go_sem] theorem tab42 : tZero Try.prog 8 = some [.t (.int .i64 0), .t (.int .i64 0), .t (.bool false), .t (.int .u8 0)] := by kernel_rfl
@[go_sem] theorem tab43 : tBytes Try.prog 8 = some 24 := by kernel_rfl
@[go_sem] theorem tab44 : tStr Try.prog 8 = false := by kernel_rfl
@[go_sem] theorem tab45 : tField Try.prog 8 0 = some (0, 2) := by kernel_rfl
@[go_sem] theorem tab46 : tField Try.prog 8 1 = some (1, 3) := by kernel_rfl
@[go_sem] theorem tab47 : tField Try.prog 8 2 = some (2, 4) := by kernel_rfl
@[go_sem] theorem tab48 : tField Try.prog 8 3 = some (3, 6) := by kernel_rfl
@[go_sem] theorem tab49 : tFields Try.prog 8 = true := by kernel_rfl
@[go_sem] theorem tab50 : tSize Try.prog 9 = some 1 := by kernel_rfl
@[go_sem] theorem tab51 : tAgg Try.prog 9 = some false := by kernel_rfl
@[go_sem] theorem tab52 : tZero Try.prog 9 = some [.t (.str ⟨#[]⟩)] := by kernel_rfl
@[go_sem] theorem tab53 : tBytes Try.prog 9 = some 16 := by kernel_rfl
@[go_sem] theorem tab54 : tStr Try.prog 9 = true := by kernel_rfl
@[go_sem] theorem tab55 : tSize Try.prog 10 = some 1 := by kernel_rfl
@[go_sem] theorem tab56 : tAgg Try.prog 10 = some false := by kernel_rfl
@[go_sem] theorem tab57 : tZero Try.prog 10 = some [.t (.str ⟨#[]⟩)] := by kernel_rfl
@[go_sem] theorem tab58 : tBytes Try.prog 10 = some 16 := by kernel_rfl
@[go_sem] theorem tab59 : tStr Try.prog 10 = true := by kernel_rfl
@[go_sem] theorem tab60 : tSize Try.prog 11 = some 1 := by kernel_rfl
@[go_sem] theorem tab61 : tAgg Try.prog 11 = some false := by kernel_rfl
@[go_sem] theorem tab62 : tZero Try.prog 11 = some [.t (.str ⟨#[]⟩)] := by kernel_rfl
@[go_sem] theorem tab63 : tBytes Try.prog 11 = some 16 := by kernel_rfl
@[go_sem] theorem tab64 : tStr Try.prog 11 = true := by kernel_rfl
@[go_sem] theorem tab65 : tSize Try.prog 12 = some 1 := by kernel_rfl
@[go_sem] theorem tab66 : tAgg Try.prog 12 = some false := by kernel_rfl
@[go_sem] theorem tab67 : tZero Try.prog 12 = some [.t (.int .u64 0)] := by kernel_rfl
@[go_sem] theorem tab68 : tBytes Try.prog 12 = some 8 := by kernel_rfl
@[go_sem] theorem tab69 : tStr Try.prog 12 = false := by kernel_rfl
@[go_sem] theorem tab70 : tInt Try.prog 12 = some .u64 := by kernel_rfl
@[go_sem] theorem tab71 : tSize Try.prog 13 = some 2 := by kernel_rfl
@[go_sem] theorem tab72 : tAgg Try.prog 13 = some true := by kernel_rfl
@[go_sem] theorem tab73 : tZero Try.prog 13 = some [.t (.str ⟨#[]⟩), .t (.int .u64 0)] := by kernel_rfl
@[go_sem] theorem tab74 : tBytes Try.prog 13 = some 24 := by kernel_rfl
@[go_sem] theorem tab75 : tStr Try.prog 13 = false := by kernel_rfl
@[go_sem] theorem tab76 : tField Try.prog 13 0 = some (0, 9) := by kernel_rfl
@[go_sem] theorem tab77 : tField Try.prog 13 1 = some (1, 12) := by kernel_rfl
@[go_sem] theorem tab78 : tFields Try.prog 13 = true := by kernel_rfl
@[go_sem] theorem tab79 : tSize Try.prog 14 = some 2 := by kernel_rfl
@[go_sem] theorem tab80 : tAgg Try.prog 14 = some true := by kernel_rfl
@[go_sem] theorem tab81 : tZero Try.prog 14 = some [.t (.str ⟨#[]⟩), .t (.int .u64 0)] := by kernel_rfl
@[go_sem] theorem tab82 : tBytes Try.prog 14 = some 24 := by kernel_rfl
@[go_sem] theorem tab83 : tStr Try.prog 14 = false := by kernel_rfl
@[go_sem] theorem tab84 : tField Try.prog 14 0 = some (0, 9) := by kernel_rfl
@[go_sem] theorem tab85 : tField Try.prog 14 1 = some (1, 12) := by kernel_rfl
@[go_sem] theorem tab86 : tFields Try.prog 14 = true := by kernel_rfl
@[go_sem] theorem tab87 : tSize Try.prog 20 = some 1 := by kernel_rfl
@[go_sem] theorem tab88 : tAgg Try.prog 20 = some false := by kernel_rfl
@[go_sem] theorem tab89 : tBytes Try.prog 20 = some 16 := by kernel_rfl
@[go_sem] theorem tab90 : tStr Try.prog 20 = false := by kernel_rfl
@[go_sem] theorem tab91 : tIface Try.prog 20 = true := by kernel_rfl
@[go_sem] theorem tab92 : tSize Try.prog 21 = some 1 := by kernel_rfl
@[go_sem] theorem tab93 : tAgg Try.prog 21 = some false := by kernel_rfl
@[go_sem] theorem tab94 : tZero Try.prog 21 = some [.t (.int .i32 0)] := by kernel_rfl
@[go_sem] theorem tab95 : tBytes Try.prog 21 = some 4 := by kernel_rfl
@[go_sem] theorem tab96 : tStr Try.prog 21 = false := by kernel_rfl
@[go_sem] theorem tab97 : tInt Try.prog 21 = some .i32 := by kernel_rfl
@[go_sem] theorem tab98 : tSize Try.prog 22 = some 1 := by kernel_rfl
@[go_sem] theorem tab99 : tAgg Try.prog 22 = some false := by kernel_rfl
@[go_sem] theorem tab100 : tZero Try.prog 22 = some [.nil0] := by kernel_rfl
@[go_sem] theorem tab101 : tBytes Try.prog 22 = some 24 := by kernel_rfl
@[go_sem] theorem tab102 : tElem Try.prog 22 = some 75 := by kernel_rfl
@[go_sem] theorem tab103 : tStr Try.prog 22 = false := by kernel_rfl
@[go_sem] theorem tab104 : tSize Try.prog 25 = some 1 := by kernel_rfl
@[go_sem] theorem tab105 : tAgg Try.prog 25 = some false := by kernel_rfl
@[go_sem] theorem tab106 : tZero Try.prog 25 = some [.nil0] := by kernel_rfl
@[go_sem] theorem tab107 : tBytes Try.prog 25 = some 24 := by kernel_rfl
@[go_sem] theorem tab108 : tElem Try.prog 25 = some 77 := by kernel_rfl
@[go_sem] theorem tab109 : tStr Try.prog 25 = false := by kernel_rfl
@[go_sem] theorem tab110 : tSize Try.prog 28 = some 1 := by kernel_rfl
@[go_sem] theorem tab111 : tAgg Try.prog 28 = some false := by kernel_rfl
@[go_sem] theorem tab112 : tZero Try.prog 28 = some [.nil0] := by kernel_rfl
@[go_sem] theorem tab113 : tBytes Try.prog 28 = some 24 := by kernel_rfl
@[go_sem] theorem tab114 : tElem Try.prog 28 = some 65 := by kernel_rfl
@[go_sem] theorem tab115 : tStr Try.prog 28 = false := by kernel_rfl
@[go_sem] theorem tab116 : tSize Try.prog 29 = some 1 := by kernel_rfl
@[go_sem] theorem tab117 : tAgg Try.prog 29 = some true := by kernel_rfl
@[go_sem] theorem tab118 : tZero Try.prog 29 = some [.nil0] := by kernel_rfl
@[go_sem] theorem tab119 : tBytes Try.prog 29 = some 24 := by kernel_rfl
@[go_sem] theorem tab120 : tStr Try.prog 29 = false := by kernel_rfl
@[go_sem] theorem tab121 : tField Try.prog 29 0 = some (0, 28) := by kernel_rfl
@[go_sem] theorem tab122 : tFields Try.prog 29 = true := by kernel_rfl
@[go_sem] theorem tab123 : tSize Try.prog 30 = some 1 := by kernel_rfl
@[go_sem] theorem tab124 : tAgg Try.prog 30 = some true := by kernel_rfl
@[go_sem] theorem tab125 : tZero Try.prog 30 = some [.nil0] := by kernel_rfl
@[go_sem] theorem tab126 : tBytes Try.prog 30 = some 24 := by kernel_rfl
@[go_sem] theorem tab127 : tStr Try.prog 30 = false := by kernel_rfl
@[go_sem] theorem tab128 : tField Try.prog 30 0 = some (0, 28) := by kernel_rfl
@[go_sem] theorem tab129 : tFields Try.prog 30 = true := by kernel_rfl
@[go_sem] theorem tab130 : tSize Try.prog 33 = some 1 := by kernel_rfl
@[go_sem] theorem tab131 : tAgg Try.prog 33 = some false := by kernel_rfl
@[go_sem] theorem tab132 : tZero Try.prog 33 = some [.nil0] := by kernel_rfl
@[go_sem] theorem tab133 : tBytes Try.prog 33 = some 24 := by kernel_rfl
@[go_sem] theorem tab134 : tElem Try.prog 33 = some 69 := by kernel_rfl
@[go_sem] theorem tab135 : tStr Try.prog 33 = false := by kernel_rfl
@[go_sem] theorem tab136 : tSize Try.prog 34 = some 1 := by kernel_rfl
@[go_sem] theorem tab137 : tAgg Try.prog 34 = some true := by kernel_rfl
@[go_sem] theorem tab138 : tZero Try.prog 34 = some [.nil0] := by kernel_rfl
@[go_sem] theorem tab139 : tBytes Try.prog 34 = some 24 := by kernel_rfl
@[go_sem] theorem tab140 : tStr Try.prog 34 = false := by kernel_rfl
@[go_sem] theorem tab141 : tField Try.prog 34 0 = some (0, 33) := by kernel_rfl
@[go_sem] theorem tab142 : tFields Try.prog 34 = true := by kernel_rfl
@[go_sem] theorem tab143 : tSize Try.prog 35 = some 1 := by kernel_rfl
@[go_sem] theorem tab144 : tAgg Try.prog 35 = some true := by kernel_rfl
@[go_sem] theorem tab145 : tZero Try.prog 35 = some [.nil0] := by kernel_rfl
@[go_sem] theorem tab146 : tBytes Try.prog 35 = some 24 := by kernel_rfl
@[go_sem] theorem tab147 : tStr Try.prog 35 = false := by kernel_rfl
@[go_sem] theorem tab148 : tField Try.prog 35 0 = some (0, 33) := by kernel_rfl
@[go_sem] theorem tab149 : tFields Try.prog 35 = true := by kernel_rfl
@[go_sem] theorem tab150 : tSize Try.prog 40 = some 1 := by kernel_rfl
@[go_sem] theorem tab151 : tAgg Try.prog 40 = some false := by kernel_rfl
@[go_sem] theorem tab152 : tZero Try.prog 40 = some [.nil0] := by kernel_rfl
@[go_sem] theorem tab153 : tBytes Try.prog 40 = some 24 := by kernel_rfl
@[go_sem] theorem tab154 : tElem Try.prog 40 = some 42 := by kernel_rfl
@[go_sem] theorem tab155 : tStr Try.prog 40 = false := by kernel_rfl
@[go_sem] theorem tab156 : tSize Try.prog 41 = some 3 := by kernel_rfl
@[go_sem] theorem tab157 : tAgg Try.prog 41 = some true := by kernel_rfl
@[go_sem] theorem tab158 : tZero Try.prog 41 = some [.t (.int .i64 0), .t (.str ⟨#[]⟩), .nil0] := by kernel_rfl
@[go_sem] theorem tab159 : tBytes Try.prog 41 = some 48 := by kernel_rfl
@[go_sem] theorem tab160 : tStr Try.prog 41 = false := by kernel_rfl
@[go_sem] theorem tab161 : tField Try.prog 41 0 = some (0, 3) := by kernel_rfl
@[go_sem] theorem tab162 : tField Try.prog 41 1 = some (1, 9) := by kernel_rfl
@[go_sem] theorem tab163 : tField Try.prog 41 2 = some (2, 40) := by kernel_rfl
@[go_sem] theorem tab164 : tFields Try.prog 41 = true := by kernel_rfl
@[go_sem] theorem tab165 : tSize Try.prog 42 = some 3 := by kernel_rfl
@[go_sem] theorem tab166 : tAgg Try.prog 42 = some true := by kernel_rfl
@[go_sem] theorem tab167 : tZero Try.prog 42 = some [.t (.int .i64 0), .t (.str ⟨#[]⟩), .nil0] := by kernel_rfl
@[go_sem] theorem tab168 : tBytes Try.prog 42 = some 48 := by kernel_rfl
@[go_sem] theorem tab169 : tStr Try.prog 42 = false := by kernel_rfl
@[go_sem] theorem tab170 : tField Try.prog 42 0 = some (0, 3) := by kernel_rfl
@[go_sem] theorem tab171 : tField Try.prog 42 1 = some (1, 9) := by kernel_rfl
@[go_sem] theorem tab172 : tField Try.prog 42 2 = some (2, 40) := by kernel_rfl
@[go_sem] theorem tab173 : tFields Try.prog 42 = true := by kernel_rfl
@[go_sem] theorem tab174 : tSize Try.prog 43 = some 1 := by kernel_rfl
@[go_sem] theorem tab175 : tAgg Try.prog 43 = some false := by kernel_rfl
@[go_sem] theorem tab176 : tZero Try.prog 43 = some [.nil0] := by kernel_rfl
@[go_sem] theorem tab177 : tBytes Try.prog 43 = some 24 := by kernel_rfl
@[go_sem] theorem tab178 : tElem Try.prog 43 = some 90 := by kernel_rfl
@[go_sem] theorem tab179 : tStr Try.prog 43 = false := by kernel_rfl
@[go_sem] theorem tab180 : tSize Try.prog 46 = some 1 := by kernel_rfl
@[go_sem] theorem tab181 : tAgg Try.prog 46 = some false := by kernel_rfl
@[go_sem] theorem tab182 : tZero Try.prog 46 = some [.nil0] := by kernel_rfl
@[go_sem] theorem tab183 : tBytes Try.prog 46 = some 24 := by kernel_rfl
@[go_sem] theorem tab184 : tElem Try.prog 46 = some 48 := by kernel_rfl
@[go_sem] theorem tab185 : tStr Try.prog 46 = false := by kernel_rfl
@[go_sem] theorem tab186 : tSize Try.prog 47 = some 3 := by kernel_rfl
@[go_sem] theorem tab187 : tAgg Try.prog 47 = some true := by kernel_rfl
@[go_sem] theorem tab188 : tZero Try.prog 47 = some [.t (.int .i64 0), .t (.str ⟨#[]⟩), .nil0] := by kernel_rfl
@[go_sem] theorem tab189 : tBytes Try.prog 47 = some 48 := by kernel_rfl
@[go_sem] theorem tab190 : tStr Try.prog 47 = false := by kernel_rfl
@[go_sem] theorem tab191 : tField Try.prog 47 0 = some (0, 3) := by kernel_rfl
@[go_sem] theorem tab192 : tField Try.prog 47 1 = some (1, 9) := by kernel_rfl
@[go_sem] theorem tab193 : tField Try.prog 47 2 = some (2, 46) := by kernel_rfl
@[go_sem] theorem tab194 : tFields Try.prog 47 = true := by kernel_rfl
@[go_sem] theorem tab195 : tSize Try.prog 48 = some 3 := by kernel_rfl
@[go_sem] theorem tab196 : tAgg Try.prog 48 = some true := by kernel_rfl
@[go_sem] theorem tab197 : tZero Try.prog 48 = some [.t (.int .i64 0), .t (.str ⟨#[]⟩), .nil0] := by kernel_rfl
@[go_sem] theorem tab198 : tBytes Try.prog 48 = some 48 := by kernel_rfl
@[go_sem] theorem tab199 : tStr Try.prog 48 = false := by kernel_rfl
@[go_sem] theorem tab200 : tField Try.prog 48 0 = some (0, 3) := by kernel_rfl
@[go_sem] theorem tab201 : tField Try.prog 48 1 = some (1, 9) := by kernel_rfl
@[go_sem] theorem tab202 : tField Try.prog 48 2 = some (2, 46) := by kernel_rfl
@[go_sem] theorem tab203 : tFields Try.prog 48 = true := by kernel_rfl
@[go_sem] theorem tab204 : tSize Try.prog 51 = some 1 := by kernel_rfl
@[go_sem] theorem tab205 : tAgg Try.prog 51 = some false := by kernel_rfl
@[go_sem] theorem tab206 : tZero Try.prog 51 = some [.nil0] := by kernel_rfl
@[go_sem] theorem tab207 : tBytes Try.prog 51 = some 24 := by kernel_rfl
@[go_sem] theorem tab208 : tElem Try.prog 51 = some 96 := by kernel_rfl
@[go_sem] theorem tab209 : tStr Try.prog 51 = false := by kernel_rfl
@[go_sem] theorem tab210 : tSize Try.prog 63 = some 1 := by kernel_rfl
@[go_sem] theorem tab211 : tAgg Try.prog 63 = some false := by kernel_rfl
@[go_sem] theorem tab212 : tZero Try.prog 63 = some [.nil0] := by kernel_rfl
@[go_sem] theorem tab213 : tBytes Try.prog 63 = some 24 := by kernel_rfl
@[go_sem] theorem tab214 : tElem Try.prog 63 = some 9 := by kernel_rfl
@[go_sem] theorem tab215 : tStr Try.prog 63 = false := by kernel_rfl
@[go_sem] theorem tab216 : tSize Try.prog 64 = some 7 := by kernel_rfl
@[go_sem] theorem tab217 : tAgg Try.prog 64 = some true := by kernel_rfl
@[go_sem] theorem tab218 : tZero Try.prog 64 = some [.t (.str ⟨#[]⟩), .t (.str ⟨#[]⟩), .nil0, .nil0, .t (.int .i64 0), .t (.str ⟨#[]⟩), .nil0] := by kernel_rfl
@[go_sem] theorem tab219 : tBytes Try.prog 64 = some 128 := by kernel_rfl
@[go_sem] theorem tab220 : tStr Try.prog 64 = false := by kernel_rfl
@[go_sem] theorem tab221 : tField Try.prog 64 0 = some (0, 9) := by kernel_rfl
@[go_sem] theorem tab222 : tField Try.prog 64 1 = some (1, 9) := by kernel_rfl
@[go_sem] theorem tab223 : tField Try.prog 64 2 = some (2, 63) := by kernel_rfl
@[go_sem] theorem tab224 : tField Try.prog 64 3 = some (3, 63) := by kernel_rfl
@[go_sem] theorem tab225 : tField Try.prog 64 4 = some (4, 42) := by kernel_rfl
@[go_sem] theorem tab226 : tFields Try.prog 64 = true := by kernel_rfl
@[go_sem] theorem tab227 : tSize Try.prog 65 = some 7 := by kernel_rfl
@[go_sem] theorem tab228 : tAgg Try.prog 65 = some true := by kernel_rfl
@[go_sem] theorem tab229 : tZero Try.prog 65 = some [.t (.str ⟨#[]⟩), .t (.str ⟨#[]⟩), .nil0, .nil0, .t (.int .i64 0), .t (.str ⟨#[]⟩), .nil0] := by kernel_rfl
@[go_sem] theorem tab230 : tBytes Try.prog 65 = some 128 := by kernel_rfl
@[go_sem] theorem tab231 : tStr Try.prog 65 = false := by kernel_rfl
@[go_sem] theorem tab232 : tField Try.prog 65 0 = some (0, 9) := by kernel_rfl
@[go_sem] theorem tab233 : tField Try.prog 65 1 = some (1, 9) := by kernel_rfl
@[go_sem] theorem tab234 : tField Try.prog 65 2 = some (2, 63) := by kernel_rfl
@[go_sem] theorem tab235 : tField Try.prog 65 3 = some (3, 63) := by kernel_rfl
@[go_sem] theorem tab236 : tField Try.prog 65 4 = some (4, 42) := by kernel_rfl
@[go_sem] theorem tab237 : tFields Try.prog 65 = true := by kernel_rfl
@[go_sem] theorem tab238 : tSize Try.prog 68 = some 7 := by kernel_rfl
@[go_sem] theorem tab239 : tAgg Try.prog 68 = some true := by kernel_rfl
@[go_sem] theorem tab240 : tZero Try.prog 68 = some [.t (.str ⟨#[]⟩), .t (.str ⟨#[]⟩), .nil0, .nil0, .t (.int .i64 0), .t (.str ⟨#[]⟩), .nil0] := by kernel_rfl
@[go_sem] theorem tab241 : tBytes Try.prog 68 = some 128 := by kernel_rfl
@[go_sem] theorem tab242 : tStr Try.prog 68 = false := by kernel_rfl
@[go_sem] theorem tab243 : tField Try.prog 68 0 = some (0, 9) := by kernel_rfl
@[go_sem] theorem tab244 : tField Try.prog 68 1 = some (1, 9) := by kernel_rfl
@[go_sem] theorem tab245 : tField Try.prog 68 2 = some (2, 63) := by kernel_rfl
@[go_sem] theorem tab246 : tField Try.prog 68 3 = some (3, 63) := by kernel_rfl
@[go_sem] theorem tab247 : tField Try.prog 68 4 = some (4, 48) := by kernel_rfl
@[go_sem] theorem tab248 : tFields Try.prog 68 = true := by kernel_rfl
@[go_sem] theorem tab249 : tSize Try.prog 69 = some 7 := by kernel_rfl
@[go_sem] theorem tab250 : tAgg Try.prog 69 = some true := by kernel_rfl
@[go_sem] theorem tab251 : tZero Try.prog 69 = some [.t (.str ⟨#[]⟩), .t (.str ⟨#[]⟩), .nil0, .nil0, .t (.int .i64 0), .t (.str ⟨#[]⟩), .nil0] := by kernel_rfl
@[go_sem] theorem tab252 : tBytes Try.prog 69 = some 128 := by kernel_rfl
@[go_sem] theorem tab253 : tStr Try.prog 69 = false := by kernel_rfl
@[go_sem] theorem tab254 : tField Try.prog 69 0 = some (0, 9) := by kernel_rfl
@[go_sem] theorem tab255 : tField Try.prog 69 1 = some (1, 9) := by kernel_rfl
@[go_sem] theorem tab256 : tField Try.prog 69 2 = some (2, 63) := by kernel_rfl
@[go_sem] theorem tab257 : tField Try.prog 69 3 = some (3, 63) := by kernel_rfl
@[go_sem] theorem tab258 : tField Try.prog 69 4 = some (4, 48) := by kernel_rfl
@[go_sem] theorem tab259 : tFields Try.prog 69 = true := by kernel_rfl
@[go_sem] theorem tab260 : tSize Try.prog 74 = some 6 := by kernel_rfl
@[go_sem] theorem tab261 : tAgg Try.prog 74 = some true := by kernel_rfl
@[go_sem] theorem tab262 : tZero Try.prog 74 = some [.t (.int .i64 0), .t (.str ⟨#[]⟩), .nil0, .t (.str ⟨#[]⟩), .t (.str ⟨#[]⟩), .nil0] := by kernel_rfl
@[go_sem] theorem tab263 : tBytes Try.prog 74 = some 104 := by kernel_rfl
@[go_sem] theorem tab264 : tStr Try.prog 74 = false := by kernel_rfl
@[go_sem] theorem tab265 : tField Try.prog 74 0 = some (0, 42) := by kernel_rfl
@[go_sem] theorem tab266 : tField Try.prog 74 1 = some (3, 9) := by kernel_rfl
@[go_sem] theorem tab267 : tField Try.prog 74 2 = some (4, 9) := by kernel_rfl
@[go_sem] theorem tab268 : tField Try.prog 74 3 = some (5, 63) := by kernel_rfl
@[go_sem] theorem tab269 : tFields Try.prog 74 = true := by kernel_rfl
@[go_sem] theorem tab270 : tSize Try.prog 75 = some 6 := by kernel_rfl
@[go_sem] theorem tab271 : tAgg Try.prog 75 = some true := by kernel_rfl
@[go_sem] theorem tab272 : tZero Try.prog 75 = some [.t (.int .i64 0), .t (.str ⟨#[]⟩), .nil0, .t (.str ⟨#[]⟩), .t (.str ⟨#[]⟩), .nil0] := by kernel_rfl
@[go_sem] theorem tab273 : tBytes Try.prog 75 = some 104 := by kernel_rfl
@[go_sem] theorem tab274 : tStr Try.prog 75 = false := by kernel_rfl
@[go_sem] theorem tab275 : tField Try.prog 75 0 = some (0, 42) := by kernel_rfl
@[go_sem] theorem tab276 : tField Try.prog 75 1 = some (3, 9) := by kernel_rfl
@[go_sem] theorem tab277 : tField Try.prog 75 2 = some (4, 9) := by kernel_rfl
@[go_sem] theorem tab278 : tField Try.prog 75 3 = some (5, 63) := by kernel_rfl
@[go_sem] theorem tab279 : tFields Try.prog 75 = true := by kernel_rfl
@[go_sem] theorem tab280 : tSize Try.prog 76 = some 6 := by kernel_rfl
@[go_sem] theorem tab281 : tAgg Try.prog 76 = some true := by kernel_rfl
@[go_sem] theorem tab282 : tZero Try.prog 76 = some [.t (.int .i64 0), .t (.str ⟨#[]⟩), .nil0, .t (.str ⟨#[]⟩), .t (.str ⟨#[]⟩), .nil0] := by kernel_rfl
@[go_sem] theorem tab283 : tBytes Try.prog 76 = some 104 := by kernel_rfl
@[go_sem] theorem tab284 : tStr Try.prog 76 = false := by kernel_rfl
@[go_sem] theorem tab285 : tField Try.prog 76 0 = some (0, 48) := by kernel_rfl
@[go_sem] theorem tab286 : tField Try.prog 76 1 = some (3, 9) := by kernel_rfl
@[go_sem] theorem tab287 : tField Try.prog 76 2 = some (4, 9) := by kernel_rfl
@[go_sem] theorem tab288 : tField Try.prog 76 3 = some (5, 63) := by kernel_rfl
@[go_sem] theorem tab289 : tFields Try.prog 76 = true := by kernel_rfl
@[go_sem] theorem tab290 : tSize Try.prog 77 = some 6 := by kernel_rfl
@[go_sem] theorem tab291 : tAgg Try.prog 77 = some true := by kernel_rfl
@[go_sem] theorem tab292 : tZero Try.prog 77 = some [.t (.int .i64 0), .t (.str ⟨#[]⟩), .nil0, .t (.str ⟨#[]⟩), .t (.str ⟨#[]⟩), .nil0] := by kernel_rfl
@[go_sem] theorem tab293 : tBytes Try.prog 77 = some 104 := by kernel_rfl
@[go_sem] theorem tab294 : tStr Try.prog 77 = false := by kernel_rfl
@[go_sem] theorem tab295 : tField Try.prog 77 0 = some (0, 48) := by kernel_rfl
@[go_sem] theorem tab296 : tField Try.prog 77 1 = some (3, 9) := by kernel_rfl
@[go_sem] theorem tab297 : tField Try.prog 77 2 = some (4, 9) := by kernel_rfl
@[go_sem] theorem tab298 : tField Try.prog 77 3 = some (5, 63) := by kernel_rfl
@[go_sem] theorem tab299 : tFields Try.prog 77 = true := by kernel_rfl
@[go_sem] theorem tab300 : tSize Try.prog 89 = some 4 := by kernel_rfl
@[go_sem] theorem tab301 : tAgg Try.prog 89 = some true := by kernel_rfl
@[go_sem] theorem tab302 : tZero Try.prog 89 = some [.t (.str ⟨#[]⟩), .t (.int .i64 0), .t (.str ⟨#[]⟩), .nil0] := by kernel_rfl
@[go_sem] theorem tab303 : tBytes Try.prog 89 = some 64 := by kernel_rfl
@[go_sem] theorem tab304 : tStr Try.prog 89 = false := by kernel_rfl
@[go_sem] theorem tab305 : tField Try.prog 89 0 = some (0, 9) := by kernel_rfl
@[go_sem] theorem tab306 : tField Try.prog 89 1 = some (1, 42) := by kernel_rfl
@[go_sem] theorem tab307 : tFields Try.prog 89 = true := by kernel_rfl
@[go_sem] theorem tab308 : tSize Try.prog 90 = some 4 := by kernel_rfl
@[go_sem] theorem tab309 : tAgg Try.prog 90 = some true := by kernel_rfl
@[go_sem] theorem tab310 : tZero Try.prog 90 = some [.t (.str ⟨#[]⟩), .t (.int .i64 0), .t (.str ⟨#[]⟩), .nil0] := by kernel_rfl
@[go_sem] theorem tab311 : tBytes Try.prog 90 = some 64 := by kernel_rfl
@[go_sem] theorem tab312 : tStr Try.prog 90 = false := by kernel_rfl
@[go_sem] theorem tab313 : tField Try.prog 90 0 = some (0, 9) := by kernel_rfl
@[go_sem] theorem tab314 : tField Try.prog 90 1 = some (1, 42) := by kernel_rfl
@[go_sem] theorem tab315 : tFields Try.prog 90 = true := by kernel_rfl
@[go_sem] theorem tab316 : tSize Try.prog 95 = some 4 := by kernel_rfl
@[go_sem] theorem tab317 : tAgg Try.prog 95 = some true := by kernel_rfl
@[go_sem] theorem tab318 : tZero Try.prog 95 = some [.t (.str ⟨#[]⟩), .t (.int .i64 0), .t (.str ⟨#[]⟩), .nil0] := by kernel_rfl
@[go_sem] theorem tab319 : tBytes Try.prog 95 = some 64 := by kernel_rfl
@[go_sem] theorem tab320 : tStr Try.prog 95 = false := by kernel_rfl
@[go_sem] theorem tab321 : tField Try.prog 95 0 = some (0, 9) := by kernel_rfl
@[go_sem] theorem tab322 : tField Try.prog 95 1 = some (1, 48) := by kernel_rfl
@[go_sem] theorem tab323 : tFields Try.prog 95 = true := by kernel_rfl
@[go_sem] theorem tab324 : tSize Try.prog 96 = some 4 := by kernel_rfl
@[go_sem] theorem tab325 : tAgg Try.prog 96 = some true := by kernel_rfl
@[go_sem] theorem tab326 : tZero Try.prog 96 = some [.t (.str ⟨#[]⟩), .t (.int .i64 0), .t (.str ⟨#[]⟩), .nil0] := by kernel_rfl
@[go_sem] theorem tab327 : tBytes Try.prog 96 = some 64 := by kernel_rfl
@[go_sem] theorem tab328 : tStr Try.prog 96 = false := by kernel_rfl
@[go_sem] theorem tab329 : tField Try.prog 96 0 = some (0, 9) := by kernel_rfl
@[go_sem] theorem tab330 : tField Try.prog 96 1 = some (1, 48) := by kernel_rfl
@[go_sem] theorem tab331 : tFields Try.prog 96 = true := by kernel_rfl
@[go_sem] theorem tab332 : tSize Try.prog 116 = some 1 := by kernel_rfl
@[go_sem] theorem tab333 : tAgg Try.prog 116 = some false := by kernel_rfl
@[go_sem] theorem tab334 : tZero Try.prog 116 = some [.nil0] := by kernel_rfl
@[go_sem] theorem tab335 : tBytes Try.prog 116 = some 24 := by kernel_rfl
@[go_sem] theorem tab336 : tElem Try.prog 116 = some 5 := by kernel_rfl
@[go_sem] theorem tab337 : tStr Try.prog 116 = false := by kernel_rfl
@[go_sem] theorem tab338 : tSize Try.prog 126 = some 1 := by kernel_rfl
@[go_sem] theorem tab339 : tAgg Try.prog 126 = some false := by kernel_rfl
@[go_sem] theorem tab340 : tBytes Try.prog 126 = some 16 := by kernel_rfl
@[go_sem] theorem tab341 : tStr Try.prog 126 = false := by kernel_rfl
@[go_sem] theorem tab342 : tIface Try.prog 126 = true := by kernel_rfl
@[go_sem] theorem tab343 : tSize Try.prog 127 = some 1 := by kernel_rfl
@[go_sem] theorem tab344 : tAgg Try.prog 127 = some false := by kernel_rfl
@[go_sem] theorem tab345 : tBytes Try.prog 127 = some 16 := by kernel_rfl
@[go_sem] theorem tab346 : tStr Try.prog 127 = false := by kernel_rfl
@[go_sem] theorem tab347 : tIface Try.prog 127 = true := by kernel_rfl
@[go_sem] theorem tab348 : tSize Try.prog 140 = some 1 := by kernel_rfl
@[go_sem] theorem tab349 : tAgg Try.prog 140 = some false := by kernel_rfl
@[go_sem] theorem tab350 : tZero Try.prog 140 = some [.nil0] := by kernel_rfl
@[go_sem] theorem tab351 : tBytes Try.prog 140 = some 24 := by kernel_rfl
@[go_sem] theorem tab352 : tElem Try.prog 140 = some 63 := by kernel_rfl
@[go_sem] theorem tab353 : tStr Try.prog 140 = false := by kernel_rfl
@[go_sem] theorem tab354 : tSize Try.prog 154 = some 1 := by kernel_rfl
@[go_sem] theorem tab355 : tAgg Try.prog 154 = some false := by kernel_rfl
@[go_sem] theorem tab356 : tZero Try.prog 154 = some [.t (.int .u32 0)] := by kernel_rfl
@[go_sem] theorem tab357 : tBytes Try.prog 154 = some 4 := by kernel_rfl
@[go_sem] theorem tab358 : tStr Try.prog 154 = false := by kernel_rfl
@[go_sem] theorem tab359 : tInt Try.prog 154 = some .u32 := by kernel_rfl
@[go_sem] theorem tab360 : tSize Try.prog 155 = some 1 := by kernel_rfl
@[go_sem] theorem tab361 : tAgg Try.prog 155 = some false := by kernel_rfl
@[go_sem] theorem tab362 : tZero Try.prog 155 = some [.t (.int .u8 0)] := by kernel_rfl
@[go_sem] theorem tab363 : tBytes Try.prog 155 = some 1 := by kernel_rfl
@[go_sem] theorem tab364 : tStr Try.prog 155 = false := by kernel_rfl
@[go_sem] theorem tab365 : tInt Try.prog 155 = some .u8 := by kernel_rfl
@[go_sem] theorem tab366 : tSize Try.prog 156 = some 1 := by kernel_rfl
@[go_sem] theorem tab367 : tAgg Try.prog 156 = some false := by kernel_rfl
@[go_sem] theorem tab368 : tZero Try.prog 156 = some [.t (.int .u8 0)] := by kernel_rfl
@[go_sem] theorem tab369 : tBytes Try.prog 156 = some 1 := by kernel_rfl
@[go_sem] theorem tab370 : tStr Try.prog 156 = false := by kernel_rfl
@[go_sem] theorem tab371 : tInt Try.prog 156 = some .u8 := by kernel_rfl
@[go_sem] theorem tab372 : tSize Try.prog 158 = some 1 := by kernel_rfl
@[go_sem] theorem tab373 : tAgg Try.prog 158 = some false := by kernel_rfl
@[go_sem] theorem tab374 : tZero Try.prog 158 = some [.t (.int .i32 0)] := by kernel_rfl
@[go_sem] theorem tab375 : tBytes Try.prog 158 = some 4 := by kernel_rfl
@[go_sem] theorem tab376 : tStr Try.prog 158 = false := by kernel_rfl
@[go_sem] theorem tab377 : tInt Try.prog 158 = some .i32 := by kernel_rfl
@[go_sem] theorem tab378 : tSize Try.prog 159 = some 1 := by kernel_rfl
@[go_sem] theorem tab379 : tAgg Try.prog 159 = some false := by kernel_rfl
@[go_sem] theorem tab380 : tZero Try.prog 159 = some [.t (.int .i32 0)] := by kernel_rfl
@[go_sem] theorem tab381 : tBytes Try.prog 159 = some 4 := by kernel_rfl
@[go_sem] theorem tab382 : tStr Try.prog 159 = false := by kernel_rfl
@[go_sem] theorem tab383 : tInt Try.prog 159 = some .i32 := by kernel_rfl
end Go.Proofs.Ytlnfbkalpdicmaa
