/- Facts on the seat's types, for walks by rewriting. -/
import Derived.Test.YtgeofeckmaiebaaDoorProg
import Derived.Test.YtgeofeckmaiebaaDoorV28
import Derived.KernelRfl
namespace Go.Proofs.YtgeofeckmaiebaaDoor
open Go Go.VL
theorem mixed : Tryd.prog.follows .mixedOrders = true := by kernel_rfl
@[go_sem] theorem tab0 : tSize Tryd.prog 2 = some 1 := by kernel_rfl
@[go_sem] theorem tab1 : tAgg Tryd.prog 2 = some false := by kernel_rfl
@[go_sem] theorem tab2 : tZero Tryd.prog 2 = some [.t (.int .i64 0)] := by kernel_rfl
@[go_sem] theorem tab3 : tBytes Tryd.prog 2 = some 8 := by kernel_rfl
@[go_sem] theorem tab4 : (Program.underlying Tryd.prog 2).isSome = true := by kernel_rfl
@[go_sem] theorem tab5 : tStr Tryd.prog 2 = false := by kernel_rfl
@[go_sem] theorem tab6 : tElem Tryd.prog 2 = none := by kernel_rfl
@[go_sem] theorem tab7 : tInt Tryd.prog 2 = some .i64 := by kernel_rfl
@[go_sem] theorem tab8 : tSize Tryd.prog 3 = some 1 := by kernel_rfl
@[go_sem] theorem tab9 : tAgg Tryd.prog 3 = some false := by kernel_rfl
@[go_sem] theorem tab10 : tZero Tryd.prog 3 = some [.t (.int .i64 0)] := by kernel_rfl
@[go_sem] theorem tab11 : tBytes Tryd.prog 3 = some 8 := by kernel_rfl
@[go_sem] theorem tab12 : (Program.underlying Tryd.prog 3).isSome = true := by kernel_rfl
@[go_sem] theorem tab13 : tStr Tryd.prog 3 = false := by kernel_rfl
@[go_sem] theorem tab14 : tElem Tryd.prog 3 = none := by kernel_rfl
@[go_sem] theorem tab15 : tInt Tryd.prog 3 = some .i64 := by kernel_rfl
@[go_sem] theorem tab16 : tSize Tryd.prog 4 = some 1 := by kernel_rfl
@[go_sem] theorem tab17 : tAgg Tryd.prog 4 = some false := by kernel_rfl
@[go_sem] theorem tab18 : tZero Tryd.prog 4 = some [.t (.bool false)] := by kernel_rfl
@[go_sem] theorem tab19 : tBytes Tryd.prog 4 = some 1 := by kernel_rfl
@[go_sem] theorem tab20 : (Program.underlying Tryd.prog 4).isSome = true := by kernel_rfl
@[go_sem] theorem tab21 : tStr Tryd.prog 4 = false := by kernel_rfl
@[go_sem] theorem tab22 : tBool Tryd.prog 4 = true := by kernel_rfl
@[go_sem] theorem tab23 : tSize Tryd.prog 5 = some 1 := by kernel_rfl
@[go_sem] theorem tab24 : tAgg Tryd.prog 5 = some false := by kernel_rfl
@[go_sem] theorem tab25 : tZero Tryd.prog 5 = some [.t (.int .u8 0)] := by kernel_rfl
@[go_sem] theorem tab26 : tBytes Tryd.prog 5 = some 1 := by kernel_rfl
@[go_sem] theorem tab27 : (Program.underlying Tryd.prog 5).isSome = true := by kernel_rfl
@[go_sem] theorem tab28 : tStr Tryd.prog 5 = false := by kernel_rfl
@[go_sem] theorem tab29 : tElem Tryd.prog 5 = none := by kernel_rfl
@[go_sem] theorem tab30 : tInt Tryd.prog 5 = some .u8 := by kernel_rfl
@[go_sem] theorem tab31 : tSize Tryd.prog 6 = some 1 := by kernel_rfl
@[go_sem] theorem tab32 : tAgg Tryd.prog 6 = some false := by kernel_rfl
@[go_sem] theorem tab33 : tZero Tryd.prog 6 = some [.t (.int .u8 0)] := by kernel_rfl
@[go_sem] theorem tab34 : tBytes Tryd.prog 6 = some 1 := by kernel_rfl
@[go_sem] theorem tab35 : (Program.underlying Tryd.prog 6).isSome = true := by kernel_rfl
@[go_sem] theorem tab36 : tStr Tryd.prog 6 = false := by kernel_rfl
@[go_sem] theorem tab37 : tElem Tryd.prog 6 = none := by kernel_rfl
@[go_sem] theorem tab38 : tInt Tryd.prog 6 = some .u8 := by kernel_rfl
@[go_sem] theorem tab39 : tSize Tryd.prog 7 = some 4 := by kernel_rfl
@[go_sem] theorem tab40 : tAgg Tryd.prog 7 = some true := by kernel_rfl
@[go_sem] theorem tab41 : tZero Tryd.prog 7 = some [.t (.int .i64 0), .t (.int .i64 0), .t (.bool false), .t (.int .u8 0)] := by kernel_rfl
@[go_sem] theorem tab42 : tBytes Tryd.prog 7 = some 24 := by kernel_rfl
@[go_sem] theorem tab43 : (Program.underlying Tryd.prog 7).isSome = true := by kernel_rfl
@[go_sem] theorem tab44 : tStr Tryd.prog 7 = false := by kernel_rfl
@[go_sem] theorem tab45 : tField Tryd.prog 7 0 = some (0, 2) := by kernel_rfl
@[go_sem] theorem tab46 : tField Tryd.prog 7 1 = some (1, 3) := by kernel_rfl
@[go_sem] theorem tab47 : tField Tryd.prog 7 2 = some (2, 4) := by kernel_rfl
@[go_sem] theorem tab48 : tField Tryd.prog 7 3 = some (3, 6) := by kernel_rfl
@[go_sem] theorem tab49 : tFields Tryd.prog 7 = true := by kernel_rfl
@[go_sem] theorem tab50 : tSize Tryd.prog 8 = some 4 := by kernel_rfl
@[go_sem] theorem tab51 : tAgg Tryd.prog 8 = some true := by kernel_rfl
@[go_sem] theorem tab52 : tZero Tryd.prog 8 = some [.t (.int .i64 0), .t (.int .i64 0), .t (.bool false), .t (.int .u8 0)] := by kernel_rfl
@[go_sem] theorem tab53 : tBytes Tryd.prog 8 = some 24 := by kernel_rfl
@[go_sem] theorem tab54 : (Program.underlying Tryd.prog 8).isSome = true := by kernel_rfl
@[go_sem] theorem tab55 : tStr Tryd.prog 8 = false := by kernel_rfl
@[go_sem] theorem tab56 : tField Tryd.prog 8 0 = some (0, 2) := by kernel_rfl
@[go_sem] theorem tab57 : tField Tryd.prog 8 1 = some (1, 3) := by kernel_rfl
@[go_sem] theorem tab58 : tField Tryd.prog 8 2 = some (2, 4) := by kernel_rfl
@[go_sem] theorem tab59 : tField Tryd.prog 8 3 = some (3, 6) := by kernel_rfl
@[go_sem] theorem tab60 : tFields Tryd.prog 8 = true := by kernel_rfl
@[go_sem] theorem tab61 : tSize Tryd.prog 9 = some 1 := by kernel_rfl
@[go_sem] theorem tab62 : tAgg Tryd.prog 9 = some false := by kernel_rfl
@[go_sem] theorem tab63 : tZero Tryd.prog 9 = some [.t (.str ⟨#[]⟩)] := by kernel_rfl
@[go_sem] theorem tab64 : tBytes Tryd.prog 9 = some 16 := by kernel_rfl
@[go_sem] theorem tab65 : (Program.underlying Tryd.prog 9).isSome = true := by kernel_rfl
@[go_sem] theorem tab66 : tStr Tryd.prog 9 = true := by kernel_rfl
@[go_sem] theorem tab67 : tElem Tryd.prog 9 = none := by kernel_rfl
@[go_sem] theorem tab68 : tSize Tryd.prog 10 = some 1 := by kernel_rfl
@[go_sem] theorem tab69 : tAgg Tryd.prog 10 = some false := by kernel_rfl
@[go_sem] theorem tab70 : tZero Tryd.prog 10 = some [.t (.str ⟨#[]⟩)] := by kernel_rfl
@[go_sem] theorem tab71 : tBytes Tryd.prog 10 = some 16 := by kernel_rfl
@[go_sem] theorem tab72 : (Program.underlying Tryd.prog 10).isSome = true := by kernel_rfl
@[go_sem] theorem tab73 : tStr Tryd.prog 10 = true := by kernel_rfl
@[go_sem] theorem tab74 : tElem Tryd.prog 10 = none := by kernel_rfl
@[go_sem] theorem tab75 : tSize Tryd.prog 11 = some 1 := by kernel_rfl
@[go_sem] theorem tab76 : tAgg Tryd.prog 11 = some false := by kernel_rfl
@[go_sem] theorem tab77 : tZero Tryd.prog 11 = some [.t (.str ⟨#[]⟩)] := by kernel_rfl
@[go_sem] theorem tab78 : tBytes Tryd.prog 11 = some 16 := by kernel_rfl
@[go_sem] theorem tab79 : (Program.underlying Tryd.prog 11).isSome = true := by kernel_rfl
@[go_sem] theorem tab80 : tStr Tryd.prog 11 = true := by kernel_rfl
@[go_sem] theorem tab81 : tElem Tryd.prog 11 = none := by kernel_rfl
@[go_sem] theorem tab82 : tSize Tryd.prog 12 = some 1 := by kernel_rfl
@[go_sem] theorem tab83 : tAgg Tryd.prog 12 = some false := by kernel_rfl
@[go_sem] theorem tab84 : tZero Tryd.prog 12 = some [.t (.int .u64 0)] := by kernel_rfl
@[go_sem] theorem tab85 : tBytes Tryd.prog 12 = some 8 := by kernel_rfl
@[go_sem] theorem tab86 : (Program.underlying Tryd.prog 12).isSome = true := by kernel_rfl
@[go_sem] theorem tab87 : tStr Tryd.prog 12 = false := by kernel_rfl
@[go_sem] theorem tab88 : tElem Tryd.prog 12 = none := by kernel_rfl
@[go_sem] theorem tab89 : tInt Tryd.prog 12 = some .u64 := by kernel_rfl
@[go_sem] theorem tab90 : tSize Tryd.prog 13 = some 2 := by kernel_rfl
@[go_sem] theorem tab91 : tAgg Tryd.prog 13 = some true := by kernel_rfl
@[go_sem] theorem tab92 : tZero Tryd.prog 13 = some [.t (.str ⟨#[]⟩), .t (.int .u64 0)] := by kernel_rfl
@[go_sem] theorem tab93 : tBytes Tryd.prog 13 = some 24 := by kernel_rfl
@[go_sem] theorem tab94 : (Program.underlying Tryd.prog 13).isSome = true := by kernel_rfl
@[go_sem] theorem tab95 : tStr Tryd.prog 13 = false := by kernel_rfl
@[go_sem] theorem tab96 : tField Tryd.prog 13 0 = some (0, 9) := by kernel_rfl
@[go_sem] theorem tab97 : tField Tryd.prog 13 1 = some (1, 12) := by kernel_rfl
@[go_sem] theorem tab98 : tFields Tryd.prog 13 = true := by kernel_rfl
@[go_sem] theorem tab99 : tSize Tryd.prog 14 = some 2 := by kernel_rfl
@[go_sem] theorem tab100 : tAgg Tryd.prog 14 = some true := by kernel_rfl
@[go_sem] theorem tab101 : tZero Tryd.prog 14 = some [.t (.str ⟨#[]⟩), .t (.int .u64 0)] := by kernel_rfl
@[go_sem] theorem tab102 : tBytes Tryd.prog 14 = some 24 := by kernel_rfl
@[go_sem] theorem tab103 : (Program.underlying Tryd.prog 14).isSome = true := by kernel_rfl
@[go_sem] theorem tab104 : tStr Tryd.prog 14 = false := by kernel_rfl
@[go_sem] theorem tab105 : tField Tryd.prog 14 0 = some (0, 9) := by kernel_rfl
@[go_sem] theorem tab106 : tField Tryd.prog 14 1 = some (1, 12) := by kernel_rfl
@[go_sem] theorem tab107 : tFields Tryd.prog 14 = true := by kernel_rfl
@[go_sem] theorem tab108 : tSize Tryd.prog 20 = some 1 := by kernel_rfl
@[go_sem] theorem tab109 : tAgg Tryd.prog 20 = some false := by kernel_rfl
@[go_sem] theorem tab110 : tBytes Tryd.prog 20 = some 16 := by kernel_rfl
@[go_sem] theorem tab111 : (Program.underlying Tryd.prog 20).isSome = true := by kernel_rfl
@[go_sem] theorem tab112 : tStr Tryd.prog 20 = false := by kernel_rfl
@[go_sem] theorem tab113 : tIface Tryd.prog 20 = true := by kernel_rfl
@[go_sem] theorem tab114 : tSize Tryd.prog 21 = some 1 := by kernel_rfl
@[go_sem] theorem tab115 : tAgg Tryd.prog 21 = some false := by kernel_rfl
@[go_sem] theorem tab116 : tZero Tryd.prog 21 = some [.t (.int .i32 0)] := by kernel_rfl
@[go_sem] theorem tab117 : tBytes Tryd.prog 21 = some 4 := by kernel_rfl
@[go_sem] theorem tab118 : (Program.underlying Tryd.prog 21).isSome = true := by kernel_rfl
@[go_sem] theorem tab119 : tStr Tryd.prog 21 = false := by kernel_rfl
@[go_sem] theorem tab120 : tElem Tryd.prog 21 = none := by kernel_rfl
@[go_sem] theorem tab121 : tInt Tryd.prog 21 = some .i32 := by kernel_rfl
@[go_sem] theorem tab122 : tSize Tryd.prog 22 = some 1 := by kernel_rfl
@[go_sem] theorem tab123 : tAgg Tryd.prog 22 = some false := by kernel_rfl
@[go_sem] theorem tab124 : tZero Tryd.prog 22 = some [.nil0] := by kernel_rfl
@[go_sem] theorem tab125 : tBytes Tryd.prog 22 = some 24 := by kernel_rfl
@[go_sem] theorem tab126 : (Program.underlying Tryd.prog 22).isSome = true := by kernel_rfl
@[go_sem] theorem tab127 : tElem Tryd.prog 22 = some 9 := by kernel_rfl
@[go_sem] theorem tab128 : tStr Tryd.prog 22 = false := by kernel_rfl
@[go_sem] theorem tab129 : tSize Tryd.prog 28 = some 1 := by kernel_rfl
@[go_sem] theorem tab130 : tAgg Tryd.prog 28 = some false := by kernel_rfl
@[go_sem] theorem tab131 : tZero Tryd.prog 28 = some [.nil0] := by kernel_rfl
@[go_sem] theorem tab132 : tBytes Tryd.prog 28 = some 24 := by kernel_rfl
@[go_sem] theorem tab133 : (Program.underlying Tryd.prog 28).isSome = true := by kernel_rfl
@[go_sem] theorem tab134 : tElem Tryd.prog 28 = some 5 := by kernel_rfl
@[go_sem] theorem tab135 : tStr Tryd.prog 28 = false := by kernel_rfl
@[go_sem] theorem tab136 : tSize Tryd.prog 51 = some 1 := by kernel_rfl
@[go_sem] theorem tab137 : tAgg Tryd.prog 51 = some false := by kernel_rfl
@[go_sem] theorem tab138 : tZero Tryd.prog 51 = some [.nil0] := by kernel_rfl
@[go_sem] theorem tab139 : tBytes Tryd.prog 51 = some 24 := by kernel_rfl
@[go_sem] theorem tab140 : (Program.underlying Tryd.prog 51).isSome = true := by kernel_rfl
@[go_sem] theorem tab141 : tElem Tryd.prog 51 = some 3 := by kernel_rfl
@[go_sem] theorem tab142 : tStr Tryd.prog 51 = false := by kernel_rfl
@[go_sem] theorem tab143 : tSize Tryd.prog 62 = some 3 := by kernel_rfl
@[go_sem] theorem tab144 : tAgg Tryd.prog 62 = some true := by kernel_rfl
@[go_sem] theorem tab145 : tZero Tryd.prog 62 = some [.nil0, .t (.int .i64 0), .t (.int .i64 0)] := by kernel_rfl
@[go_sem] theorem tab146 : tBytes Tryd.prog 62 = some 40 := by kernel_rfl
@[go_sem] theorem tab147 : (Program.underlying Tryd.prog 62).isSome = true := by kernel_rfl
@[go_sem] theorem tab148 : tStr Tryd.prog 62 = false := by kernel_rfl
@[go_sem] theorem tab149 : tField Tryd.prog 62 0 = some (0, 28) := by kernel_rfl
@[go_sem] theorem tab150 : tField Tryd.prog 62 1 = some (1, 3) := by kernel_rfl
@[go_sem] theorem tab151 : tField Tryd.prog 62 2 = some (2, 3) := by kernel_rfl
@[go_sem] theorem tab152 : tFields Tryd.prog 62 = true := by kernel_rfl
@[go_sem] theorem tab153 : tSize Tryd.prog 63 = some 3 := by kernel_rfl
@[go_sem] theorem tab154 : tAgg Tryd.prog 63 = some true := by kernel_rfl
@[go_sem] theorem tab155 : tZero Tryd.prog 63 = some [.nil0, .t (.int .i64 0), .t (.int .i64 0)] := by kernel_rfl
@[go_sem] theorem tab156 : tBytes Tryd.prog 63 = some 40 := by kernel_rfl
@[go_sem] theorem tab157 : (Program.underlying Tryd.prog 63).isSome = true := by kernel_rfl
@[go_sem] theorem tab158 : tStr Tryd.prog 63 = false := by kernel_rfl
@[go_sem] theorem tab159 : tField Tryd.prog 63 0 = some (0, 28) := by kernel_rfl
@[go_sem] theorem tab160 : tField Tryd.prog 63 1 = some (1, 3) := by kernel_rfl
@[go_sem] theorem tab161 : tField Tryd.prog 63 2 = some (2, 3) := by kernel_rfl
@[go_sem] theorem tab162 : tFields Tryd.prog 63 = true := by kernel_rfl
@[go_sem] theorem tab163 : tSize Tryd.prog 70 = some 1 := by kernel_rfl
@[go_sem] theorem tab164 : tAgg Tryd.prog 70 = some false := by kernel_rfl
@[go_sem] theorem tab165 : tBytes Tryd.prog 70 = some 16 := by kernel_rfl
@[go_sem] theorem tab166 : (Program.underlying Tryd.prog 70).isSome = true := by kernel_rfl
@[go_sem] theorem tab167 : tStr Tryd.prog 70 = false := by kernel_rfl
@[go_sem] theorem tab168 : tIface Tryd.prog 70 = true := by kernel_rfl
@[go_sem] theorem tab169 : tSize Tryd.prog 71 = some 1 := by kernel_rfl
@[go_sem] theorem tab170 : tAgg Tryd.prog 71 = some false := by kernel_rfl
@[go_sem] theorem tab171 : tBytes Tryd.prog 71 = some 16 := by kernel_rfl
@[go_sem] theorem tab172 : (Program.underlying Tryd.prog 71).isSome = true := by kernel_rfl
@[go_sem] theorem tab173 : tStr Tryd.prog 71 = false := by kernel_rfl
@[go_sem] theorem tab174 : tIface Tryd.prog 71 = true := by kernel_rfl
@[go_sem] theorem tab175 : tSize Tryd.prog 75 = some 1 := by kernel_rfl
@[go_sem] theorem tab176 : tAgg Tryd.prog 75 = some false := by kernel_rfl
@[go_sem] theorem tab177 : tZero Tryd.prog 75 = some [.nil0] := by kernel_rfl
@[go_sem] theorem tab178 : tBytes Tryd.prog 75 = some 24 := by kernel_rfl
@[go_sem] theorem tab179 : (Program.underlying Tryd.prog 75).isSome = true := by kernel_rfl
@[go_sem] theorem tab180 : tElem Tryd.prog 75 = some 22 := by kernel_rfl
@[go_sem] theorem tab181 : tStr Tryd.prog 75 = false := by kernel_rfl
@[go_sem] theorem tab182 : tSize Tryd.prog 82 = some 1 := by kernel_rfl
@[go_sem] theorem tab183 : tAgg Tryd.prog 82 = some false := by kernel_rfl
@[go_sem] theorem tab184 : tZero Tryd.prog 82 = some [.t (.int .u64 0)] := by kernel_rfl
@[go_sem] theorem tab185 : tBytes Tryd.prog 82 = some 8 := by kernel_rfl
@[go_sem] theorem tab186 : (Program.underlying Tryd.prog 82).isSome = true := by kernel_rfl
@[go_sem] theorem tab187 : tStr Tryd.prog 82 = false := by kernel_rfl
@[go_sem] theorem tab188 : tElem Tryd.prog 82 = none := by kernel_rfl
@[go_sem] theorem tab189 : tInt Tryd.prog 82 = some .u64 := by kernel_rfl
@[go_sem] theorem tab190 : tSize Tryd.prog 90 = some 1 := by kernel_rfl
@[go_sem] theorem tab191 : tAgg Tryd.prog 90 = some false := by kernel_rfl
@[go_sem] theorem tab192 : tZero Tryd.prog 90 = some [.t (.int .i64 0)] := by kernel_rfl
@[go_sem] theorem tab193 : tBytes Tryd.prog 90 = some 8 := by kernel_rfl
@[go_sem] theorem tab194 : (Program.underlying Tryd.prog 90).isSome = true := by kernel_rfl
@[go_sem] theorem tab195 : tStr Tryd.prog 90 = false := by kernel_rfl
@[go_sem] theorem tab196 : tElem Tryd.prog 90 = none := by kernel_rfl
@[go_sem] theorem tab197 : tInt Tryd.prog 90 = some .i64 := by kernel_rfl
@[go_sem] theorem tab198 : tSize Tryd.prog 97 = some 1 := by kernel_rfl
@[go_sem] theorem tab199 : tAgg Tryd.prog 97 = some false := by kernel_rfl
@[go_sem] theorem tab200 : tZero Tryd.prog 97 = some [.t (.int .u64 0)] := by kernel_rfl
@[go_sem] theorem tab201 : tBytes Tryd.prog 97 = some 8 := by kernel_rfl
@[go_sem] theorem tab202 : (Program.underlying Tryd.prog 97).isSome = true := by kernel_rfl
@[go_sem] theorem tab203 : tStr Tryd.prog 97 = false := by kernel_rfl
@[go_sem] theorem tab204 : tElem Tryd.prog 97 = none := by kernel_rfl
@[go_sem] theorem tab205 : tInt Tryd.prog 97 = some .u64 := by kernel_rfl
@[go_sem] theorem tab206 : tSize Tryd.prog 106 = some 3 := by kernel_rfl
@[go_sem] theorem tab207 : tAgg Tryd.prog 106 = some true := by kernel_rfl
@[go_sem] theorem tab208 : tZero Tryd.prog 106 = some [.t (.str ⟨#[]⟩), .t (.str ⟨#[]⟩), .err false] := by kernel_rfl
@[go_sem] theorem tab209 : tBytes Tryd.prog 106 = some 48 := by kernel_rfl
@[go_sem] theorem tab210 : (Program.underlying Tryd.prog 106).isSome = true := by kernel_rfl
@[go_sem] theorem tab211 : tStr Tryd.prog 106 = false := by kernel_rfl
@[go_sem] theorem tab212 : tField Tryd.prog 106 0 = some (0, 9) := by kernel_rfl
@[go_sem] theorem tab213 : tField Tryd.prog 106 1 = some (1, 9) := by kernel_rfl
@[go_sem] theorem tab214 : tField Tryd.prog 106 2 = some (2, 71) := by kernel_rfl
@[go_sem] theorem tab215 : tFields Tryd.prog 106 = true := by kernel_rfl
@[go_sem] theorem tab216 : tSize Tryd.prog 107 = some 3 := by kernel_rfl
@[go_sem] theorem tab217 : tAgg Tryd.prog 107 = some true := by kernel_rfl
@[go_sem] theorem tab218 : tZero Tryd.prog 107 = some [.t (.str ⟨#[]⟩), .t (.str ⟨#[]⟩), .err false] := by kernel_rfl
@[go_sem] theorem tab219 : tBytes Tryd.prog 107 = some 48 := by kernel_rfl
@[go_sem] theorem tab220 : (Program.underlying Tryd.prog 107).isSome = true := by kernel_rfl
@[go_sem] theorem tab221 : tStr Tryd.prog 107 = false := by kernel_rfl
@[go_sem] theorem tab222 : tField Tryd.prog 107 0 = some (0, 9) := by kernel_rfl
@[go_sem] theorem tab223 : tField Tryd.prog 107 1 = some (1, 9) := by kernel_rfl
@[go_sem] theorem tab224 : tField Tryd.prog 107 2 = some (2, 71) := by kernel_rfl
@[go_sem] theorem tab225 : tFields Tryd.prog 107 = true := by kernel_rfl
@[go_sem] theorem tab226 : tSize Tryd.prog 111 = some 1 := by kernel_rfl
@[go_sem] theorem tab227 : tAgg Tryd.prog 111 = some false := by kernel_rfl
@[go_sem] theorem tab228 : tZero Tryd.prog 111 = some [.t (.int .u32 0)] := by kernel_rfl
@[go_sem] theorem tab229 : tBytes Tryd.prog 111 = some 4 := by kernel_rfl
@[go_sem] theorem tab230 : (Program.underlying Tryd.prog 111).isSome = true := by kernel_rfl
@[go_sem] theorem tab231 : tStr Tryd.prog 111 = false := by kernel_rfl
@[go_sem] theorem tab232 : tElem Tryd.prog 111 = none := by kernel_rfl
@[go_sem] theorem tab233 : tInt Tryd.prog 111 = some .u32 := by kernel_rfl
@[go_sem] theorem tab234 : tSize Tryd.prog 116 = some 2 := by kernel_rfl
@[go_sem] theorem tab235 : tAgg Tryd.prog 116 = some true := by kernel_rfl
@[go_sem] theorem tab236 : tZero Tryd.prog 116 = some [.t (.int .u8 0), .t (.int .u8 0)] := by kernel_rfl
@[go_sem] theorem tab237 : tBytes Tryd.prog 116 = some 2 := by kernel_rfl
@[go_sem] theorem tab238 : (Program.underlying Tryd.prog 116).isSome = true := by kernel_rfl
@[go_sem] theorem tab239 : tStr Tryd.prog 116 = false := by kernel_rfl
@[go_sem] theorem tab240 : tField Tryd.prog 116 0 = some (0, 5) := by kernel_rfl
@[go_sem] theorem tab241 : tField Tryd.prog 116 1 = some (1, 5) := by kernel_rfl
@[go_sem] theorem tab242 : tFields Tryd.prog 116 = true := by kernel_rfl
@[go_sem] theorem tab243 : tSize Tryd.prog 117 = some 2 := by kernel_rfl
@[go_sem] theorem tab244 : tAgg Tryd.prog 117 = some true := by kernel_rfl
@[go_sem] theorem tab245 : tZero Tryd.prog 117 = some [.t (.int .u8 0), .t (.int .u8 0)] := by kernel_rfl
@[go_sem] theorem tab246 : tBytes Tryd.prog 117 = some 2 := by kernel_rfl
@[go_sem] theorem tab247 : (Program.underlying Tryd.prog 117).isSome = true := by kernel_rfl
@[go_sem] theorem tab248 : tStr Tryd.prog 117 = false := by kernel_rfl
@[go_sem] theorem tab249 : tField Tryd.prog 117 0 = some (0, 5) := by kernel_rfl
@[go_sem] theorem tab250 : tField Tryd.prog 117 1 = some (1, 5) := by kernel_rfl
@[go_sem] theorem tab251 : tFields Tryd.prog 117 = true := by kernel_rfl
@[go_sem] theorem tab252 : tSize Tryd.prog 123 = some 1 := by kernel_rfl
@[go_sem] theorem tab253 : tAgg Tryd.prog 123 = some true := by kernel_rfl
@[go_sem] theorem tab254 : tZero Tryd.prog 123 = some [.t (.str ⟨#[]⟩)] := by kernel_rfl
@[go_sem] theorem tab255 : tBytes Tryd.prog 123 = some 16 := by kernel_rfl
@[go_sem] theorem tab256 : (Program.underlying Tryd.prog 123).isSome = true := by kernel_rfl
@[go_sem] theorem tab257 : tStr Tryd.prog 123 = false := by kernel_rfl
@[go_sem] theorem tab258 : tField Tryd.prog 123 0 = some (0, 9) := by kernel_rfl
@[go_sem] theorem tab259 : tFields Tryd.prog 123 = true := by kernel_rfl
@[go_sem] theorem tab260 : tSize Tryd.prog 124 = some 1 := by kernel_rfl
@[go_sem] theorem tab261 : tAgg Tryd.prog 124 = some true := by kernel_rfl
@[go_sem] theorem tab262 : tZero Tryd.prog 124 = some [.t (.str ⟨#[]⟩)] := by kernel_rfl
@[go_sem] theorem tab263 : tBytes Tryd.prog 124 = some 16 := by kernel_rfl
@[go_sem] theorem tab264 : (Program.underlying Tryd.prog 124).isSome = true := by kernel_rfl
@[go_sem] theorem tab265 : tStr Tryd.prog 124 = false := by kernel_rfl
@[go_sem] theorem tab266 : tField Tryd.prog 124 0 = some (0, 9) := by kernel_rfl
@[go_sem] theorem tab267 : tFields Tryd.prog 124 = true := by kernel_rfl
@[go_sem] theorem tab268 : tSize Tryd.prog 134 = some 1 := by kernel_rfl
@[go_sem] theorem tab269 : tAgg Tryd.prog 134 = some false := by kernel_rfl
@[go_sem] theorem tab270 : tZero Tryd.prog 134 = some [.t (.int .u8 0)] := by kernel_rfl
@[go_sem] theorem tab271 : tBytes Tryd.prog 134 = some 1 := by kernel_rfl
@[go_sem] theorem tab272 : (Program.underlying Tryd.prog 134).isSome = true := by kernel_rfl
@[go_sem] theorem tab273 : tStr Tryd.prog 134 = false := by kernel_rfl
@[go_sem] theorem tab274 : tElem Tryd.prog 134 = none := by kernel_rfl
@[go_sem] theorem tab275 : tInt Tryd.prog 134 = some .u8 := by kernel_rfl
@[go_sem] theorem tab276 : tSize Tryd.prog 135 = some 1 := by kernel_rfl
@[go_sem] theorem tab277 : tAgg Tryd.prog 135 = some false := by kernel_rfl
@[go_sem] theorem tab278 : tZero Tryd.prog 135 = some [.t (.int .u8 0)] := by kernel_rfl
@[go_sem] theorem tab279 : tBytes Tryd.prog 135 = some 1 := by kernel_rfl
@[go_sem] theorem tab280 : (Program.underlying Tryd.prog 135).isSome = true := by kernel_rfl
@[go_sem] theorem tab281 : tStr Tryd.prog 135 = false := by kernel_rfl
@[go_sem] theorem tab282 : tElem Tryd.prog 135 = none := by kernel_rfl
@[go_sem] theorem tab283 : tInt Tryd.prog 135 = some .u8 := by kernel_rfl
@[go_sem] theorem tab284 : tSize Tryd.prog 137 = some 1 := by kernel_rfl
@[go_sem] theorem tab285 : tAgg Tryd.prog 137 = some false := by kernel_rfl
@[go_sem] theorem tab286 : tZero Tryd.prog 137 = some [.t (.int .i32 0)] := by kernel_rfl
@[go_sem] theorem tab287 : tBytes Tryd.prog 137 = some 4 := by kernel_rfl
@[go_sem] theorem tab288 : (Program.underlying Tryd.prog 137).isSome = true := by kernel_rfl
@[go_sem] theorem tab289 : tStr Tryd.prog 137 = false := by kernel_rfl
@[go_sem] theorem tab290 : tElem Tryd.prog 137 = none := by kernel_rfl
@[go_sem] theorem tab291 : tInt Tryd.prog 137 = some .i32 := by kernel_rfl
@[go_sem] theorem tab292 : tSize Tryd.prog 138 = some 1 := by kernel_rfl
@[go_sem] theorem tab293 : tAgg Tryd.prog 138 = some false := by kernel_rfl
@[go_sem] theorem tab294 : tZero Tryd.prog 138 = some [.t (.int .i32 0)] := by kernel_rfl
@[go_sem] theorem tab295 : tBytes Tryd.prog 138 = some 4 := by kernel_rfl
@[go_sem] theorem tab296 : (Program.underlying Tryd.prog 138).isSome = true := by kernel_rfl
@[go_sem] theorem tab297 : tStr Tryd.prog 138 = false := by kernel_rfl
@[go_sem] theorem tab298 : tElem Tryd.prog 138 = none := by kernel_rfl
@[go_sem] theorem tab299 : tInt Tryd.prog 138 = some .i32 := by kernel_rfl
end Go.Proofs.YtgeofeckmaiebaaDoor
