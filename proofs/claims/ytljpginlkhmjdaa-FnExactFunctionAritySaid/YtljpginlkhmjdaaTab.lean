/- Facts on the seat's types, for walks by rewriting. -/
import Derived.Test.YtljpginlkhmjdaaProg
import Derived.Test.YtljpginlkhmjdaaV24
import Derived.KernelRfl
namespace Go.Proofs.Ytljpginlkhmjdaa
open Go Go.VL
theorem mixed : Try.prog.follows .mixedOrders = true := by kernel_rfl
@[go_sem] theorem tab0 : tSize Try.prog 2 = some 1 := by kernel_rfl
@[go_sem] theorem tab1 : tAgg Try.prog 2 = some false := by kernel_rfl
@[go_sem] theorem tab2 : tZero Try.prog 2 = some [.t (.int .i64 0)] := by kernel_rfl
@[go_sem] theorem tab3 : tBytes Try.prog 2 = some 8 := by kernel_rfl
@[go_sem] theorem tab4 : tStr Try.prog 2 = false := by kernel_rfl
@[go_sem] theorem tab5 : tInt Try.prog 2 = some .i64 := by kernel_rfl
@[go_sem] theorem tab6 : tSize Try.prog 3 = some 1 := by kernel_rfl
@[go_sem] theorem tab7 : tAgg Try.prog 3 = some false := by kernel_rfl
@[go_sem] theorem tab8 : tZero Try.prog 3 = some [.t (.int .i64 0)] := by kernel_rfl
@[go_sem] theorem tab9 : tBytes Try.prog 3 = some 8 := by kernel_rfl
@[go_sem] theorem tab10 : tStr Try.prog 3 = false := by kernel_rfl
@[go_sem] theorem tab11 : tInt Try.prog 3 = some .i64 := by kernel_rfl
@[go_sem] theorem tab12 : tSize Try.prog 4 = some 1 := by kernel_rfl
@[go_sem] theorem tab13 : tAgg Try.prog 4 = some false := by kernel_rfl
@[go_sem] theorem tab14 : tZero Try.prog 4 = some [.t (.bool false)] := by kernel_rfl
@[go_sem] theorem tab15 : tBytes Try.prog 4 = some 1 := by kernel_rfl
@[go_sem] theorem tab16 : tStr Try.prog 4 = false := by kernel_rfl
@[go_sem] theorem tab17 : tBool Try.prog 4 = true := by kernel_rfl
@[go_sem] theorem tab18 : tSize Try.prog 5 = some 1 := by kernel_rfl
@[go_sem] theorem tab19 : tAgg Try.prog 5 = some false := by kernel_rfl
@[go_sem] theorem tab20 : tZero Try.prog 5 = some [.t (.int .u8 0)] := by kernel_rfl
@[go_sem] theorem tab21 : tBytes Try.prog 5 = some 1 := by kernel_rfl
@[go_sem] theorem tab22 : tStr Try.prog 5 = false := by kernel_rfl
@[go_sem] theorem tab23 : tInt Try.prog 5 = some .u8 := by kernel_rfl
@[go_sem] theorem tab24 : tSize Try.prog 6 = some 1 := by kernel_rfl
@[go_sem] theorem tab25 : tAgg Try.prog 6 = some false := by kernel_rfl
@[go_sem] theorem tab26 : tZero Try.prog 6 = some [.t (.int .u8 0)] := by kernel_rfl
@[go_sem] theorem tab27 : tBytes Try.prog 6 = some 1 := by kernel_rfl
@[go_sem] theorem tab28 : tStr Try.prog 6 = false := by kernel_rfl
@[go_sem] theorem tab29 : tInt Try.prog 6 = some .u8 := by kernel_rfl
@[go_sem] theorem tab30 : tSize Try.prog 7 = some 4 := by kernel_rfl
@[go_sem] theorem tab31 : tAgg Try.prog 7 = some true := by kernel_rfl
@[go_sem] theorem tab32 : tZero Try.prog 7 = some [.t (.int .i64 0), .t (.int .i64 0), .t (.bool false), .t (.int .u8 0)] := by kernel_rfl
@[go_sem] theorem tab33 : tBytes Try.prog 7 = some 24 := by kernel_rfl
@[go_sem] theorem tab34 : tStr Try.prog 7 = false := by kernel_rfl
@[go_sem] theorem tab35 : tField Try.prog 7 0 = some (0, 2) := by kernel_rfl
@[go_sem] theorem tab36 : tField Try.prog 7 1 = some (1, 3) := by kernel_rfl
@[go_sem] theorem tab37 : tField Try.prog 7 2 = some (2, 4) := by kernel_rfl
@[go_sem] theorem tab38 : tField Try.prog 7 3 = some (3, 6) := by kernel_rfl
@[go_sem] theorem tab39 : tFields Try.prog 7 = true := by kernel_rfl
@[go_sem] theorem tab40 : tSize Try.prog 8 = some 4 := by kernel_rfl
@[go_sem] theorem tab41 : tAgg Try.prog 8 = some true := by kernel_rfl
@[go_sem] theorem tab42 : tZero Try.prog 8 = some [.t (.int .i64 0), .t (.int .i64 0), .t (.bool false), .t (.int .u8 0)] := by kernel_rfl
@[go_sem] theorem tab43 : tBytes Try.prog 8 = some 24 := by kernel_rfl
@[go_sem] theorem tab44 : tStr Try.prog 8 = false := by kernel_rfl
@[go_sem] theorem tab45 : tField Try.prog 8 0 = some (0, 2) := by kernel_rfl
@[go_sem] theorem tab46 : tField Try.prog 8 1 = some (1, 3) := by kernel_rfl
@[go_sem] theorem tab47 : tField Try.prog 8 2 = some (2, 4) := by kernel_rfl
@[go_sem] theorem tab48 : tField Try.prog 8 3 = some (3, 6) := by kernel_rfl
@[go_sem] theorem tab49 : tFields Try.prog 8 = true := by kernel_rfl
@[go_sem] theorem tab50 : tSize Try.prog 9 = some 1 := by kernel_rfl
@[go_sem] theorem tab51 : tAgg Try.prog 9 = some false := by kernel_rfl
@[go_sem] theorem tab52 : tZero Try.prog 9 = some [.t (.str ⟨#[]⟩)] := by kernel_rfl
@[go_sem] theorem tab53 : tBytes Try.prog 9 = some 16 := by kernel_rfl
@[go_sem] theorem tab54 : tStr Try.prog 9 = true := by kernel_rfl
@[go_sem] theorem tab55 : tSize Try.prog 10 = some 1 := by kernel_rfl
@[go_sem] theorem tab56 : tAgg Try.prog 10 = some false := by kernel_rfl
@[go_sem] theorem tab57 : tZero Try.prog 10 = some [.t (.str ⟨#[]⟩)] := by kernel_rfl
@[go_sem] theorem tab58 : tBytes Try.prog 10 = some 16 := by kernel_rfl
@[go_sem] theorem tab59 : tStr Try.prog 10 = true := by kernel_rfl
@[go_sem] theorem tab60 : tSize Try.prog 11 = some 1 := by kernel_rfl
@[go_sem] theorem tab61 : tAgg Try.prog 11 = some false := by kernel_rfl
@[go_sem] theorem tab62 : tZero Try.prog 11 = some [.t (.str ⟨#[]⟩)] := by kernel_rfl
@[go_sem] theorem tab63 : tBytes Try.prog 11 = some 16 := by kernel_rfl
@[go_sem] theorem tab64 : tStr Try.prog 11 = true := by kernel_rfl
@[go_sem] theorem tab65 : tSize Try.prog 12 = some 1 := by kernel_rfl
@[go_sem] theorem tab66 : tAgg Try.prog 12 = some false := by kernel_rfl
@[go_sem] theorem tab67 : tZero Try.prog 12 = some [.t (.int .u64 0)] := by kernel_rfl
@[go_sem] theorem tab68 : tBytes Try.prog 12 = some 8 := by kernel_rfl
@[go_sem] theorem tab69 : tStr Try.prog 12 = false := by kernel_rfl
@[go_sem] theorem tab70 : tInt Try.prog 12 = some .u64 := by kernel_rfl
@[go_sem] theorem tab71 : tSize Try.prog 13 = some 2 := by kernel_rfl
@[go_sem] theorem tab72 : tAgg Try.prog 13 = some true := by kernel_rfl
@[go_sem] theorem tab73 : tZero Try.prog 13 = some [.t (.str ⟨#[]⟩), .t (.int .u64 0)] := by kernel_rfl
@[go_sem] theorem tab74 : tBytes Try.prog 13 = some 24 := by kernel_rfl
@[go_sem] theorem tab75 : tStr Try.prog 13 = false := by kernel_rfl
@[go_sem] theorem tab76 : tField Try.prog 13 0 = some (0, 9) := by kernel_rfl
@[go_sem] theorem tab77 : tField Try.prog 13 1 = some (1, 12) := by kernel_rfl
@[go_sem] theorem tab78 : tFields Try.prog 13 = true := by kernel_rfl
@[go_sem] theorem tab79 : tSize Try.prog 14 = some 2 := by kernel_rfl
@[go_sem] theorem tab80 : tAgg Try.prog 14 = some true := by kernel_rfl
@[go_sem] theorem tab81 : tZero Try.prog 14 = some [.t (.str ⟨#[]⟩), .t (.int .u64 0)] := by kernel_rfl
@[go_sem] theorem tab82 : tBytes Try.prog 14 = some 24 := by kernel_rfl
@[go_sem] theorem tab83 : tStr Try.prog 14 = false := by kernel_rfl
@[go_sem] theorem tab84 : tField Try.prog 14 0 = some (0, 9) := by kernel_rfl
@[go_sem] theorem tab85 : tField Try.prog 14 1 = some (1, 12) := by kernel_rfl
@[go_sem] theorem tab86 : tFields Try.prog 14 = true := by kernel_rfl
@[go_sem] theorem tab87 : tSize Try.prog 20 = some 1 := by kernel_rfl
@[go_sem] theorem tab88 : tAgg Try.prog 20 = some false := by kernel_rfl
@[go_sem] theorem tab89 : tBytes Try.prog 20 = some 16 := by kernel_rfl
@[go_sem] theorem tab90 : tStr Try.prog 20 = false := by kernel_rfl
@[go_sem] theorem tab91 : tIface Try.prog 20 = true := by kernel_rfl
@[go_sem] theorem tab92 : tSize Try.prog 21 = some 1 := by kernel_rfl
@[go_sem] theorem tab93 : tAgg Try.prog 21 = some false := by kernel_rfl
@[go_sem] theorem tab94 : tZero Try.prog 21 = some [.t (.int .i32 0)] := by kernel_rfl
@[go_sem] theorem tab95 : tBytes Try.prog 21 = some 4 := by kernel_rfl
@[go_sem] theorem tab96 : tStr Try.prog 21 = false := by kernel_rfl
@[go_sem] theorem tab97 : tInt Try.prog 21 = some .i32 := by kernel_rfl
@[go_sem] theorem tab98 : tSize Try.prog 25 = some 1 := by kernel_rfl
@[go_sem] theorem tab99 : tAgg Try.prog 25 = some false := by kernel_rfl
@[go_sem] theorem tab100 : tZero Try.prog 25 = some [.nil0] := by kernel_rfl
@[go_sem] theorem tab101 : tBytes Try.prog 25 = some 24 := by kernel_rfl
@[go_sem] theorem tab102 : tElem Try.prog 25 = some 9 := by kernel_rfl
@[go_sem] theorem tab103 : tStr Try.prog 25 = false := by kernel_rfl
@[go_sem] theorem tab104 : tSize Try.prog 31 = some 1 := by kernel_rfl
@[go_sem] theorem tab105 : tAgg Try.prog 31 = some false := by kernel_rfl
@[go_sem] theorem tab106 : tZero Try.prog 31 = some [.nil0] := by kernel_rfl
@[go_sem] theorem tab107 : tBytes Try.prog 31 = some 24 := by kernel_rfl
@[go_sem] theorem tab108 : tElem Try.prog 31 = some 87 := by kernel_rfl
@[go_sem] theorem tab109 : tStr Try.prog 31 = false := by kernel_rfl
@[go_sem] theorem tab110 : tSize Try.prog 34 = some 1 := by kernel_rfl
@[go_sem] theorem tab111 : tAgg Try.prog 34 = some false := by kernel_rfl
@[go_sem] theorem tab112 : tZero Try.prog 34 = some [.nil0] := by kernel_rfl
@[go_sem] theorem tab113 : tBytes Try.prog 34 = some 24 := by kernel_rfl
@[go_sem] theorem tab114 : tElem Try.prog 34 = some 89 := by kernel_rfl
@[go_sem] theorem tab115 : tStr Try.prog 34 = false := by kernel_rfl
@[go_sem] theorem tab116 : tSize Try.prog 37 = some 1 := by kernel_rfl
@[go_sem] theorem tab117 : tAgg Try.prog 37 = some false := by kernel_rfl
@[go_sem] theorem tab118 : tZero Try.prog 37 = some [.nil0] := by kernel_rfl
@[go_sem] theorem tab119 : tBytes Try.prog 37 = some 24 := by kernel_rfl
@[go_sem] theorem tab120 : tElem Try.prog 37 = some 39 := by kernel_rfl
@[go_sem] theorem tab121 : tStr Try.prog 37 = false := by kernel_rfl
@[go_sem] theorem tab122 : tSize Try.prog 38 = some 3 := by kernel_rfl
@[go_sem] theorem tab123 : tAgg Try.prog 38 = some true := by kernel_rfl
@[go_sem] theorem tab124 : tZero Try.prog 38 = some [.t (.int .i64 0), .t (.str ⟨#[]⟩), .nil0] := by kernel_rfl
@[go_sem] theorem tab125 : tBytes Try.prog 38 = some 48 := by kernel_rfl
@[go_sem] theorem tab126 : tStr Try.prog 38 = false := by kernel_rfl
@[go_sem] theorem tab127 : tField Try.prog 38 0 = some (0, 3) := by kernel_rfl
@[go_sem] theorem tab128 : tField Try.prog 38 1 = some (1, 9) := by kernel_rfl
@[go_sem] theorem tab129 : tField Try.prog 38 2 = some (2, 37) := by kernel_rfl
@[go_sem] theorem tab130 : tFields Try.prog 38 = true := by kernel_rfl
@[go_sem] theorem tab131 : tSize Try.prog 39 = some 3 := by kernel_rfl
@[go_sem] theorem tab132 : tAgg Try.prog 39 = some true := by kernel_rfl
@[go_sem] theorem tab133 : tZero Try.prog 39 = some [.t (.int .i64 0), .t (.str ⟨#[]⟩), .nil0] := by kernel_rfl
@[go_sem] theorem tab134 : tBytes Try.prog 39 = some 48 := by kernel_rfl
@[go_sem] theorem tab135 : tStr Try.prog 39 = false := by kernel_rfl
@[go_sem] theorem tab136 : tField Try.prog 39 0 = some (0, 3) := by kernel_rfl
@[go_sem] theorem tab137 : tField Try.prog 39 1 = some (1, 9) := by kernel_rfl
@[go_sem] theorem tab138 : tField Try.prog 39 2 = some (2, 37) := by kernel_rfl
@[go_sem] theorem tab139 : tFields Try.prog 39 = true := by kernel_rfl
@[go_sem] theorem tab140 : tSize Try.prog 42 = some 1 := by kernel_rfl
@[go_sem] theorem tab141 : tAgg Try.prog 42 = some false := by kernel_rfl
@[go_sem] theorem tab142 : tZero Try.prog 42 = some [.nil0] := by kernel_rfl
@[go_sem] theorem tab143 : tBytes Try.prog 42 = some 24 := by kernel_rfl
@[go_sem] theorem tab144 : tElem Try.prog 42 = some 44 := by kernel_rfl
@[go_sem] theorem tab145 : tStr Try.prog 42 = false := by kernel_rfl
@[go_sem] theorem tab146 : tSize Try.prog 43 = some 3 := by kernel_rfl
@[go_sem] theorem tab147 : tAgg Try.prog 43 = some true := by kernel_rfl
@[go_sem] theorem tab148 : tZero Try.prog 43 = some [.t (.int .i64 0), .t (.str ⟨#[]⟩), .nil0] := by kernel_rfl
@[go_sem] theorem tab149 : tBytes Try.prog 43 = some 48 := by kernel_rfl
@[go_sem] theorem tab150 : tStr Try.prog 43 = false := by kernel_rfl
@[go_sem] theorem tab151 : tField Try.prog 43 0 = some (0, 3) := by kernel_rfl
@[go_sem] theorem tab152 : tField Try.prog 43 1 = some (1, 9) := by kernel_rfl
@[go_sem] theorem tab153 : tField Try.prog 43 2 = some (2, 42) := by kernel_rfl
@[go_sem] theorem tab154 : tFields Try.prog 43 = true := by kernel_rfl
@[go_sem] theorem tab155 : tSize Try.prog 44 = some 3 := by kernel_rfl
@[go_sem] theorem tab156 : tAgg Try.prog 44 = some true := by kernel_rfl
@[go_sem] theorem tab157 : tZero Try.prog 44 = some [.t (.int .i64 0), .t (.str ⟨#[]⟩), .nil0] := by kernel_rfl
@[go_sem] theorem tab158 : tBytes Try.prog 44 = some 48 := by kernel_rfl
@[go_sem] theorem tab159 : tStr Try.prog 44 = false := by kernel_rfl
@[go_sem] theorem tab160 : tField Try.prog 44 0 = some (0, 3) := by kernel_rfl
@[go_sem] theorem tab161 : tField Try.prog 44 1 = some (1, 9) := by kernel_rfl
@[go_sem] theorem tab162 : tField Try.prog 44 2 = some (2, 42) := by kernel_rfl
@[go_sem] theorem tab163 : tFields Try.prog 44 = true := by kernel_rfl
@[go_sem] theorem tab164 : tSize Try.prog 50 = some 5 := by kernel_rfl
@[go_sem] theorem tab165 : tAgg Try.prog 50 = some true := by kernel_rfl
@[go_sem] theorem tab166 : tZero Try.prog 50 = some [.t (.int .i64 0), .t (.str ⟨#[]⟩), .nil0, .nil0, .nil0] := by kernel_rfl
@[go_sem] theorem tab167 : tBytes Try.prog 50 = some 96 := by kernel_rfl
@[go_sem] theorem tab168 : tStr Try.prog 50 = false := by kernel_rfl
@[go_sem] theorem tab169 : tField Try.prog 50 0 = some (0, 39) := by kernel_rfl
@[go_sem] theorem tab170 : tField Try.prog 50 1 = some (3, 31) := by kernel_rfl
@[go_sem] theorem tab171 : tField Try.prog 50 2 = some (4, 31) := by kernel_rfl
@[go_sem] theorem tab172 : tFields Try.prog 50 = true := by kernel_rfl
@[go_sem] theorem tab173 : tSize Try.prog 51 = some 5 := by kernel_rfl
@[go_sem] theorem tab174 : tAgg Try.prog 51 = some true := by kernel_rfl
@[go_sem] theorem tab175 : tZero Try.prog 51 = some [.t (.int .i64 0), .t (.str ⟨#[]⟩), .nil0, .nil0, .nil0] := by kernel_rfl
@[go_sem] theorem tab176 : tBytes Try.prog 51 = some 96 := by kernel_rfl
@[go_sem] theorem tab177 : tStr Try.prog 51 = false := by kernel_rfl
@[go_sem] theorem tab178 : tField Try.prog 51 0 = some (0, 39) := by kernel_rfl
@[go_sem] theorem tab179 : tField Try.prog 51 1 = some (3, 31) := by kernel_rfl
@[go_sem] theorem tab180 : tField Try.prog 51 2 = some (4, 31) := by kernel_rfl
@[go_sem] theorem tab181 : tFields Try.prog 51 = true := by kernel_rfl
@[go_sem] theorem tab182 : tSize Try.prog 54 = some 5 := by kernel_rfl
@[go_sem] theorem tab183 : tAgg Try.prog 54 = some true := by kernel_rfl
@[go_sem] theorem tab184 : tZero Try.prog 54 = some [.t (.int .i64 0), .t (.str ⟨#[]⟩), .nil0, .nil0, .nil0] := by kernel_rfl
@[go_sem] theorem tab185 : tBytes Try.prog 54 = some 96 := by kernel_rfl
@[go_sem] theorem tab186 : tStr Try.prog 54 = false := by kernel_rfl
@[go_sem] theorem tab187 : tField Try.prog 54 0 = some (0, 44) := by kernel_rfl
@[go_sem] theorem tab188 : tField Try.prog 54 1 = some (3, 34) := by kernel_rfl
@[go_sem] theorem tab189 : tField Try.prog 54 2 = some (4, 34) := by kernel_rfl
@[go_sem] theorem tab190 : tFields Try.prog 54 = true := by kernel_rfl
@[go_sem] theorem tab191 : tSize Try.prog 55 = some 5 := by kernel_rfl
@[go_sem] theorem tab192 : tAgg Try.prog 55 = some true := by kernel_rfl
@[go_sem] theorem tab193 : tZero Try.prog 55 = some [.t (.int .i64 0), .t (.str ⟨#[]⟩), .nil0, .nil0, .nil0] := by kernel_rfl
@[go_sem] theorem tab194 : tBytes Try.prog 55 = some 96 := by kernel_rfl
@[go_sem] theorem tab195 : tStr Try.prog 55 = false := by kernel_rfl
@[go_sem] theorem tab196 : tField Try.prog 55 0 = some (0, 44) := by kernel_rfl
@[go_sem] theorem tab197 : tField Try.prog 55 1 = some (3, 34) := by kernel_rfl
@[go_sem] theorem tab198 : tField Try.prog 55 2 = some (4, 34) := by kernel_rfl
@[go_sem] theorem tab199 : tFields Try.prog 55 = true := by kernel_rfl
@[go_sem] theorem tab200 : tSize Try.prog 63 = some 1 := by kernel_rfl
@[go_sem] theorem tab201 : tAgg Try.prog 63 = some false := by kernel_rfl
@[go_sem] theorem tab202 : tZero Try.prog 63 = some [.nil0] := by kernel_rfl
@[go_sem] theorem tab203 : tBytes Try.prog 63 = some 24 := by kernel_rfl
@[go_sem] theorem tab204 : tElem Try.prog 63 = some 124 := by kernel_rfl
@[go_sem] theorem tab205 : tStr Try.prog 63 = false := by kernel_rfl
@[go_sem] theorem tab206 : tSize Try.prog 64 = some 1 := by kernel_rfl
@[go_sem] theorem tab207 : tAgg Try.prog 64 = some true := by kernel_rfl
@[go_sem] theorem tab208 : tZero Try.prog 64 = some [.nil0] := by kernel_rfl
@[go_sem] theorem tab209 : tBytes Try.prog 64 = some 24 := by kernel_rfl
@[go_sem] theorem tab210 : tStr Try.prog 64 = false := by kernel_rfl
@[go_sem] theorem tab211 : tField Try.prog 64 0 = some (0, 63) := by kernel_rfl
@[go_sem] theorem tab212 : tFields Try.prog 64 = true := by kernel_rfl
@[go_sem] theorem tab213 : tSize Try.prog 65 = some 1 := by kernel_rfl
@[go_sem] theorem tab214 : tAgg Try.prog 65 = some true := by kernel_rfl
@[go_sem] theorem tab215 : tZero Try.prog 65 = some [.nil0] := by kernel_rfl
@[go_sem] theorem tab216 : tBytes Try.prog 65 = some 24 := by kernel_rfl
@[go_sem] theorem tab217 : tStr Try.prog 65 = false := by kernel_rfl
@[go_sem] theorem tab218 : tField Try.prog 65 0 = some (0, 63) := by kernel_rfl
@[go_sem] theorem tab219 : tFields Try.prog 65 = true := by kernel_rfl
@[go_sem] theorem tab220 : tSize Try.prog 68 = some 1 := by kernel_rfl
@[go_sem] theorem tab221 : tAgg Try.prog 68 = some false := by kernel_rfl
@[go_sem] theorem tab222 : tZero Try.prog 68 = some [.nil0] := by kernel_rfl
@[go_sem] theorem tab223 : tBytes Try.prog 68 = some 24 := by kernel_rfl
@[go_sem] theorem tab224 : tElem Try.prog 68 = some 100 := by kernel_rfl
@[go_sem] theorem tab225 : tStr Try.prog 68 = false := by kernel_rfl
@[go_sem] theorem tab226 : tSize Try.prog 69 = some 1 := by kernel_rfl
@[go_sem] theorem tab227 : tAgg Try.prog 69 = some true := by kernel_rfl
@[go_sem] theorem tab228 : tZero Try.prog 69 = some [.nil0] := by kernel_rfl
@[go_sem] theorem tab229 : tBytes Try.prog 69 = some 24 := by kernel_rfl
@[go_sem] theorem tab230 : tStr Try.prog 69 = false := by kernel_rfl
@[go_sem] theorem tab231 : tField Try.prog 69 0 = some (0, 68) := by kernel_rfl
@[go_sem] theorem tab232 : tFields Try.prog 69 = true := by kernel_rfl
@[go_sem] theorem tab233 : tSize Try.prog 70 = some 1 := by kernel_rfl
@[go_sem] theorem tab234 : tAgg Try.prog 70 = some true := by kernel_rfl
@[go_sem] theorem tab235 : tZero Try.prog 70 = some [.nil0] := by kernel_rfl
@[go_sem] theorem tab236 : tBytes Try.prog 70 = some 24 := by kernel_rfl
@[go_sem] theorem tab237 : tStr Try.prog 70 = false := by kernel_rfl
@[go_sem] theorem tab238 : tField Try.prog 70 0 = some (0, 68) := by kernel_rfl
@[go_sem] theorem tab239 : tFields Try.prog 70 = true := by kernel_rfl
@[go_sem] theorem tab240 : tSize Try.prog 84 = some 1 := by kernel_rfl
@[go_sem] theorem tab241 : tAgg Try.prog 84 = some false := by kernel_rfl
@[go_sem] theorem tab242 : tZero Try.prog 84 = some [.nil0] := by kernel_rfl
@[go_sem] theorem tab243 : tBytes Try.prog 84 = some 24 := by kernel_rfl
@[go_sem] theorem tab244 : tElem Try.prog 84 = some 5 := by kernel_rfl
@[go_sem] theorem tab245 : tStr Try.prog 84 = false := by kernel_rfl
@[go_sem] theorem tab246 : tSize Try.prog 86 = some 4 := by kernel_rfl
@[go_sem] theorem tab247 : tAgg Try.prog 86 = some true := by kernel_rfl
@[go_sem] theorem tab248 : tZero Try.prog 86 = some [.t (.str ⟨#[]⟩), .t (.int .i64 0), .t (.str ⟨#[]⟩), .nil0] := by kernel_rfl
@[go_sem] theorem tab249 : tBytes Try.prog 86 = some 64 := by kernel_rfl
@[go_sem] theorem tab250 : tStr Try.prog 86 = false := by kernel_rfl
@[go_sem] theorem tab251 : tField Try.prog 86 0 = some (0, 9) := by kernel_rfl
@[go_sem] theorem tab252 : tField Try.prog 86 1 = some (1, 39) := by kernel_rfl
@[go_sem] theorem tab253 : tFields Try.prog 86 = true := by kernel_rfl
@[go_sem] theorem tab254 : tSize Try.prog 87 = some 4 := by kernel_rfl
@[go_sem] theorem tab255 : tAgg Try.prog 87 = some true := by kernel_rfl
@[go_sem] theorem tab256 : tZero Try.prog 87 = some [.t (.str ⟨#[]⟩), .t (.int .i64 0), .t (.str ⟨#[]⟩), .nil0] := by kernel_rfl
@[go_sem] theorem tab257 : tBytes Try.prog 87 = some 64 := by kernel_rfl
@[go_sem] theorem tab258 : tStr Try.prog 87 = false := by kernel_rfl
@[go_sem] theorem tab259 : tField Try.prog 87 0 = some (0, 9) := by kernel_rfl
@[go_sem] theorem tab260 : tField Try.prog 87 1 = some (1, 39) := by kernel_rfl
@[go_sem] theorem tab261 : tFields Try.prog 87 = true := by kernel_rfl
@[go_sem] theorem tab262 : tSize Try.prog 88 = some 4 := by kernel_rfl
@[go_sem] theorem tab263 : tAgg Try.prog 88 = some true := by kernel_rfl
@[go_sem] theorem tab264 : tZero Try.prog 88 = some [.t (.str ⟨#[]⟩), .t (.int .i64 0), .t (.str ⟨#[]⟩), .nil0] := by kernel_rfl
@[go_sem] theorem tab265 : tBytes Try.prog 88 = some 64 := by kernel_rfl
@[go_sem] theorem tab266 : tStr Try.prog 88 = false := by kernel_rfl
@[go_sem] theorem tab267 : tField Try.prog 88 0 = some (0, 9) := by kernel_rfl
@[go_sem] theorem tab268 : tField Try.prog 88 1 = some (1, 44) := by kernel_rfl
@[go_sem] theorem tab269 : tFields Try.prog 88 = true := by kernel_rfl
@[go_sem] theorem tab270 : tSize Try.prog 89 = some 4 := by kernel_rfl
@[go_sem] theorem tab271 : tAgg Try.prog 89 = some true := by kernel_rfl
@[go_sem] theorem tab272 : tZero Try.prog 89 = some [.t (.str ⟨#[]⟩), .t (.int .i64 0), .t (.str ⟨#[]⟩), .nil0] := by kernel_rfl
@[go_sem] theorem tab273 : tBytes Try.prog 89 = some 64 := by kernel_rfl
@[go_sem] theorem tab274 : tStr Try.prog 89 = false := by kernel_rfl
@[go_sem] theorem tab275 : tField Try.prog 89 0 = some (0, 9) := by kernel_rfl
@[go_sem] theorem tab276 : tField Try.prog 89 1 = some (1, 44) := by kernel_rfl
@[go_sem] theorem tab277 : tFields Try.prog 89 = true := by kernel_rfl
@[go_sem] theorem tab278 : tSize Try.prog 99 = some 7 := by kernel_rfl
@[go_sem] theorem tab279 : tAgg Try.prog 99 = some true := by kernel_rfl
@[go_sem] theorem tab280 : tZero Try.prog 99 = some [.t (.str ⟨#[]⟩), .t (.str ⟨#[]⟩), .nil0, .nil0, .t (.int .i64 0), .t (.str ⟨#[]⟩), .nil0] := by kernel_rfl
@[go_sem] theorem tab281 : tBytes Try.prog 99 = some 128 := by kernel_rfl
@[go_sem] theorem tab282 : tStr Try.prog 99 = false := by kernel_rfl
@[go_sem] theorem tab283 : tField Try.prog 99 0 = some (0, 9) := by kernel_rfl
@[go_sem] theorem tab284 : tField Try.prog 99 1 = some (1, 9) := by kernel_rfl
@[go_sem] theorem tab285 : tField Try.prog 99 2 = some (2, 25) := by kernel_rfl
@[go_sem] theorem tab286 : tField Try.prog 99 3 = some (3, 25) := by kernel_rfl
@[go_sem] theorem tab287 : tField Try.prog 99 4 = some (4, 44) := by kernel_rfl
@[go_sem] theorem tab288 : tFields Try.prog 99 = true := by kernel_rfl
@[go_sem] theorem tab289 : tSize Try.prog 100 = some 7 := by kernel_rfl
@[go_sem] theorem tab290 : tAgg Try.prog 100 = some true := by kernel_rfl
@[go_sem] theorem tab291 : tZero Try.prog 100 = some [.t (.str ⟨#[]⟩), .t (.str ⟨#[]⟩), .nil0, .nil0, .t (.int .i64 0), .t (.str ⟨#[]⟩), .nil0] := by kernel_rfl
@[go_sem] theorem tab292 : tBytes Try.prog 100 = some 128 := by kernel_rfl
@[go_sem] theorem tab293 : tStr Try.prog 100 = false := by kernel_rfl
@[go_sem] theorem tab294 : tField Try.prog 100 0 = some (0, 9) := by kernel_rfl
@[go_sem] theorem tab295 : tField Try.prog 100 1 = some (1, 9) := by kernel_rfl
@[go_sem] theorem tab296 : tField Try.prog 100 2 = some (2, 25) := by kernel_rfl
@[go_sem] theorem tab297 : tField Try.prog 100 3 = some (3, 25) := by kernel_rfl
@[go_sem] theorem tab298 : tField Try.prog 100 4 = some (4, 44) := by kernel_rfl
@[go_sem] theorem tab299 : tFields Try.prog 100 = true := by kernel_rfl
@[go_sem] theorem tab300 : tSize Try.prog 111 = some 1 := by kernel_rfl
@[go_sem] theorem tab301 : tAgg Try.prog 111 = some false := by kernel_rfl
@[go_sem] theorem tab302 : tBytes Try.prog 111 = some 16 := by kernel_rfl
@[go_sem] theorem tab303 : tStr Try.prog 111 = false := by kernel_rfl
@[go_sem] theorem tab304 : tIface Try.prog 111 = true := by kernel_rfl
@[go_sem] theorem tab305 : tSize Try.prog 112 = some 1 := by kernel_rfl
@[go_sem] theorem tab306 : tAgg Try.prog 112 = some false := by kernel_rfl
@[go_sem] theorem tab307 : tBytes Try.prog 112 = some 16 := by kernel_rfl
@[go_sem] theorem tab308 : tStr Try.prog 112 = false := by kernel_rfl
@[go_sem] theorem tab309 : tIface Try.prog 112 = true := by kernel_rfl
@[go_sem] theorem tab310 : tSize Try.prog 123 = some 7 := by kernel_rfl
@[go_sem] theorem tab311 : tAgg Try.prog 123 = some true := by kernel_rfl
@[go_sem] theorem tab312 : tZero Try.prog 123 = some [.t (.str ⟨#[]⟩), .t (.str ⟨#[]⟩), .nil0, .nil0, .t (.int .i64 0), .t (.str ⟨#[]⟩), .nil0] := by kernel_rfl
@[go_sem] theorem tab313 : tBytes Try.prog 123 = some 128 := by kernel_rfl
@[go_sem] theorem tab314 : tStr Try.prog 123 = false := by kernel_rfl
@[go_sem] theorem tab315 : tField Try.prog 123 0 = some (0, 9) := by kernel_rfl
@[go_sem] theorem tab316 : tField Try.prog 123 1 = some (1, 9) := by kernel_rfl
@[go_sem] theorem tab317 : tField Try.prog 123 2 = some (2, 25) := by kernel_rfl
@[go_sem] theorem tab318 : tField Try.prog 123 3 = some (3, 25) := by kernel_rfl
@[go_sem] theorem tab319 : tField Try.prog 123 4 = some (4, 39) := by kernel_rfl
@[go_sem] theorem tab320 : tFields Try.prog 123 = true := by kernel_rfl
@[go_sem] theorem tab321 : tSize Try.prog 124 = some 7 := by kernel_rfl
@[go_sem] theorem tab322 : tAgg Try.prog 124 = some true := by kernel_rfl
@[go_sem] theorem tab323 : tZero Try.prog 124 = some [.t (.str ⟨#[]⟩), .t (.str ⟨#[]⟩), .nil0, .nil0, .t (.int .i64 0), .t (.str ⟨#[]⟩), .nil0] := by kernel_rfl
@[go_sem] theorem tab324 : tBytes Try.prog 124 = some 128 := by kernel_rfl
@[go_sem] theorem tab325 : tStr Try.prog 124 = false := by kernel_rfl
@[go_sem] theorem tab326 : tField Try.prog 124 0 = some (0, 9) := by kernel_rfl
@[go_sem] theorem tab327 : tField Try.prog 124 1 = some (1, 9) := by kernel_rfl
@[go_sem] theorem tab328 : tField Try.prog 124 2 = some (2, 25) := by kernel_rfl
@[go_sem] theorem tab329 : tField Try.prog 124 3 = some (3, 25) := by kernel_rfl
@[go_sem] theorem tab330 : tField Try.prog 124 4 = some (4, 39) := by kernel_rfl
@[go_sem] theorem tab331 : tFields Try.prog 124 = true := by kernel_rfl
@[go_sem] theorem tab332 : tSize Try.prog 139 = some 1 := by kernel_rfl
@[go_sem] theorem tab333 : tAgg Try.prog 139 = some false := by kernel_rfl
@[go_sem] theorem tab334 : tZero Try.prog 139 = some [.t (.int .u32 0)] := by kernel_rfl
@[go_sem] theorem tab335 : tBytes Try.prog 139 = some 4 := by kernel_rfl
@[go_sem] theorem tab336 : tStr Try.prog 139 = false := by kernel_rfl
@[go_sem] theorem tab337 : tInt Try.prog 139 = some .u32 := by kernel_rfl
@[go_sem] theorem tab338 : tSize Try.prog 140 = some 1 := by kernel_rfl
@[go_sem] theorem tab339 : tAgg Try.prog 140 = some false := by kernel_rfl
@[go_sem] theorem tab340 : tZero Try.prog 140 = some [.t (.int .u8 0)] := by kernel_rfl
@[go_sem] theorem tab341 : tBytes Try.prog 140 = some 1 := by kernel_rfl
@[go_sem] theorem tab342 : tStr Try.prog 140 = false := by kernel_rfl
@[go_sem] theorem tab343 : tInt Try.prog 140 = some .u8 := by kernel_rfl
@[go_sem] theorem tab344 : tSize Try.prog 141 = some 1 := by kernel_rfl
@[go_sem] theorem tab345 : tAgg Try.prog 141 = some false := by kernel_rfl
@[go_sem] theorem tab346 : tZero Try.prog 141 = some [.t (.int .u8 0)] := by kernel_rfl
@[go_sem] theorem tab347 : tBytes Try.prog 141 = some 1 := by kernel_rfl
@[go_sem] theorem tab348 : tStr Try.prog 141 = false := by kernel_rfl
@[go_sem] theorem tab349 : tInt Try.prog 141 = some .u8 := by kernel_rfl
@[go_sem] theorem tab350 : tSize Try.prog 143 = some 1 := by kernel_rfl
@[go_sem] theorem tab351 : tAgg Try.prog 143 = some false := by kernel_rfl
@[go_sem] theorem tab352 : tZero Try.prog 143 = some [.t (.int .i32 0)] := by kernel_rfl
@[go_sem] theorem tab353 : tBytes Try.prog 143 = some 4 := by kernel_rfl
@[go_sem] theorem tab354 : tStr Try.prog 143 = false := by kernel_rfl
@[go_sem] theorem tab355 : tInt Try.prog 143 = some .i32 := by kernel_rfl
@[go_sem] theorem tab356 : tSize Try.prog 144 = some 1 := by kernel_rfl
@[go_sem] theorem tab357 : tAgg Try.prog 144 = some false := by kernel_rfl
@[go_sem] theorem tab358 : tZero Try.prog 144 = some [.t (.int .i32 0)] := by kernel_rfl
@[go_sem] theorem tab359 : tBytes Try.prog 144 = some 4 := by kernel_rfl
@[go_sem] theorem tab360 : tStr Try.prog 144 = false := by kernel_rfl
@[go_sem] theorem tab361 : tInt Try.prog 144 = some .i32 := by kernel_rfl
end Go.Proofs.Ytljpginlkhmjdaa
