/- Facts on the seat's types, for walks by rewriting. -/
import Derived.Test.YtldhhppfnhgcdaaGreatProg
import Derived.Test.YtldhhppfnhgcdaaGreatV28
import Derived.KernelRfl
namespace Go.Proofs.YtldhhppfnhgcdaaGreat
open Go Go.VL
theorem mixed : Tryz.prog.follows .mixedOrders = true := by kernel_rfl
@[go_sem] theorem tab0 : tSize Tryz.prog 2 = some 1 := by kernel_rfl
@[go_sem] theorem tab1 : tAgg Tryz.prog 2 = some false := by kernel_rfl
@[go_sem] theorem tab2 : tZero Tryz.prog 2 = some [.t (.int .i64 0)] := by kernel_rfl
@[go_sem] theorem tab3 : tBytes Tryz.prog 2 = some 8 := by kernel_rfl
@[go_sem] theorem tab4 : (Program.underlying Tryz.prog 2).isSome = true := by kernel_rfl
@[go_sem] theorem tab5 : tStr Tryz.prog 2 = false := by kernel_rfl
@[go_sem] theorem tab6 : tElem Tryz.prog 2 = none := by kernel_rfl
@[go_sem] theorem tab7 : tInt Tryz.prog 2 = some .i64 := by kernel_rfl
@[go_sem] theorem tab8 : tSize Tryz.prog 3 = some 1 := by kernel_rfl
@[go_sem] theorem tab9 : tAgg Tryz.prog 3 = some false := by kernel_rfl
@[go_sem] theorem tab10 : tZero Tryz.prog 3 = some [.t (.int .i64 0)] := by kernel_rfl
@[go_sem] theorem tab11 : tBytes Tryz.prog 3 = some 8 := by kernel_rfl
@[go_sem] theorem tab12 : (Program.underlying Tryz.prog 3).isSome = true := by kernel_rfl
@[go_sem] theorem tab13 : tStr Tryz.prog 3 = false := by kernel_rfl
@[go_sem] theorem tab14 : tElem Tryz.prog 3 = none := by kernel_rfl
@[go_sem] theorem tab15 : tInt Tryz.prog 3 = some .i64 := by kernel_rfl
@[go_sem] theorem tab16 : tSize Tryz.prog 4 = some 1 := by kernel_rfl
@[go_sem] theorem tab17 : tAgg Tryz.prog 4 = some false := by kernel_rfl
@[go_sem] theorem tab18 : tZero Tryz.prog 4 = some [.t (.bool false)] := by kernel_rfl
@[go_sem] theorem tab19 : tBytes Tryz.prog 4 = some 1 := by kernel_rfl
@[go_sem] theorem tab20 : (Program.underlying Tryz.prog 4).isSome = true := by kernel_rfl
@[go_sem] theorem tab21 : tStr Tryz.prog 4 = false := by kernel_rfl
@[go_sem] theorem tab22 : tBool Tryz.prog 4 = true := by kernel_rfl
@[go_sem] theorem tab23 : tSize Tryz.prog 5 = some 1 := by kernel_rfl
@[go_sem] theorem tab24 : tAgg Tryz.prog 5 = some false := by kernel_rfl
@[go_sem] theorem tab25 : tZero Tryz.prog 5 = some [.t (.int .u8 0)] := by kernel_rfl
@[go_sem] theorem tab26 : tBytes Tryz.prog 5 = some 1 := by kernel_rfl
@[go_sem] theorem tab27 : (Program.underlying Tryz.prog 5).isSome = true := by kernel_rfl
@[go_sem] theorem tab28 : tStr Tryz.prog 5 = false := by kernel_rfl
@[go_sem] theorem tab29 : tElem Tryz.prog 5 = none := by kernel_rfl
@[go_sem] theorem tab30 : tInt Tryz.prog 5 = some .u8 := by kernel_rfl
@[go_sem] theorem tab31 : tSize Tryz.prog 6 = some 1 := by kernel_rfl
@[go_sem] theorem tab32 : tAgg Tryz.prog 6 = some false := by kernel_rfl
@[go_sem] theorem tab33 : tZero Tryz.prog 6 = some [.t (.int .u8 0)] := by kernel_rfl
@[go_sem] theorem tab34 : tBytes Tryz.prog 6 = some 1 := by kernel_rfl
@[go_sem] theorem tab35 : (Program.underlying Tryz.prog 6).isSome = true := by kernel_rfl
@[go_sem] theorem tab36 : tStr Tryz.prog 6 = false := by kernel_rfl
@[go_sem] theorem tab37 : tElem Tryz.prog 6 = none := by kernel_rfl
@[go_sem] theorem tab38 : tInt Tryz.prog 6 = some .u8 := by kernel_rfl
@[go_sem] theorem tab39 : tSize Tryz.prog 7 = some 4 := by kernel_rfl
@[go_sem] theorem tab40 : tAgg Tryz.prog 7 = some true := by kernel_rfl
@[go_sem] theorem tab41 : tZero Tryz.prog 7 = some [.t (.int .i64 0), .t (.int .i64 0), .t (.bool false), .t (.int .u8 0)] := by kernel_rfl
@[go_sem] theorem tab42 : tBytes Tryz.prog 7 = some 24 := by kernel_rfl
@[go_sem] theorem tab43 : (Program.underlying Tryz.prog 7).isSome = true := by kernel_rfl
@[go_sem] theorem tab44 : tStr Tryz.prog 7 = false := by kernel_rfl
@[go_sem] theorem tab45 : tField Tryz.prog 7 0 = some (0, 2) := by kernel_rfl
@[go_sem] theorem tab46 : tField Tryz.prog 7 1 = some (1, 3) := by kernel_rfl
@[go_sem] theorem tab47 : tField Tryz.prog 7 2 = some (2, 4) := by kernel_rfl
@[go_sem] theorem tab48 : tField Tryz.prog 7 3 = some (3, 6) := by kernel_rfl
@[go_sem] theorem tab49 : tFields Tryz.prog 7 = true := by kernel_rfl
@[go_sem] theorem tab50 : tSize Tryz.prog 8 = some 4 := by kernel_rfl
@[go_sem] theorem tab51 : tAgg Tryz.prog 8 = some true := by kernel_rfl
@[go_sem] theorem tab52 : tZero Tryz.prog 8 = some [.t (.int .i64 0), .t (.int .i64 0), .t (.bool false), .t (.int .u8 0)] := by kernel_rfl
@[go_sem] theorem tab53 : tBytes Tryz.prog 8 = some 24 := by kernel_rfl
@[go_sem] theorem tab54 : (Program.underlying Tryz.prog 8).isSome = true := by kernel_rfl
@[go_sem] theorem tab55 : tStr Tryz.prog 8 = false := by kernel_rfl
@[go_sem] theorem tab56 : tField Tryz.prog 8 0 = some (0, 2) := by kernel_rfl
@[go_sem] theorem tab57 : tField Tryz.prog 8 1 = some (1, 3) := by kernel_rfl
@[go_sem] theorem tab58 : tField Tryz.prog 8 2 = some (2, 4) := by kernel_rfl
@[go_sem] theorem tab59 : tField Tryz.prog 8 3 = some (3, 6) := by kernel_rfl
@[go_sem] theorem tab60 : tFields Tryz.prog 8 = true := by kernel_rfl
@[go_sem] theorem tab61 : tSize Tryz.prog 9 = some 1 := by kernel_rfl
@[go_sem] theorem tab62 : tAgg Tryz.prog 9 = some false := by kernel_rfl
@[go_sem] theorem tab63 : tZero Tryz.prog 9 = some [.t (.str ⟨#[]⟩)] := by kernel_rfl
@[go_sem] theorem tab64 : tBytes Tryz.prog 9 = some 16 := by kernel_rfl
@[go_sem] theorem tab65 : (Program.underlying Tryz.prog 9).isSome = true := by kernel_rfl
@[go_sem] theorem tab66 : tStr Tryz.prog 9 = true := by kernel_rfl
@[go_sem] theorem tab67 : tElem Tryz.prog 9 = none := by kernel_rfl
@[go_sem] theorem tab68 : tSize Tryz.prog 10 = some 1 := by kernel_rfl
@[go_sem] theorem tab69 : tAgg Tryz.prog 10 = some false := by kernel_rfl
@[go_sem] theorem tab70 : tZero Tryz.prog 10 = some [.t (.str ⟨#[]⟩)] := by kernel_rfl
@[go_sem] theorem tab71 : tBytes Tryz.prog 10 = some 16 := by kernel_rfl
@[go_sem] theorem tab72 : (Program.underlying Tryz.prog 10).isSome = true := by kernel_rfl
@[go_sem] theorem tab73 : tStr Tryz.prog 10 = true := by kernel_rfl
@[go_sem] theorem tab74 : tElem Tryz.prog 10 = none := by kernel_rfl
@[go_sem] theorem tab75 : tSize Tryz.prog 11 = some 1 := by kernel_rfl
@[go_sem] theorem tab76 : tAgg Tryz.prog 11 = some false := by kernel_rfl
@[go_sem] theorem tab77 : tZero Tryz.prog 11 = some [.t (.str ⟨#[]⟩)] := by kernel_rfl
@[go_sem] theorem tab78 : tBytes Tryz.prog 11 = some 16 := by kernel_rfl
@[go_sem] theorem tab79 : (Program.underlying Tryz.prog 11).isSome = true := by kernel_rfl
@[go_sem] theorem tab80 : tStr Tryz.prog 11 = true := by kernel_rfl
@[go_sem] theorem tab81 : tElem Tryz.prog 11 = none := by kernel_rfl
@[go_sem] theorem tab82 : tSize Tryz.prog 12 = some 1 := by kernel_rfl
@[go_sem] theorem tab83 : tAgg Tryz.prog 12 = some false := by kernel_rfl
@[go_sem] theorem tab84 : tZero Tryz.prog 12 = some [.t (.int .u64 0)] := by kernel_rfl
@[go_sem] theorem tab85 : tBytes Tryz.prog 12 = some 8 := by kernel_rfl
@[go_sem] theorem tab86 : (Program.underlying Tryz.prog 12).isSome = true := by kernel_rfl
@[go_sem] theorem tab87 : tStr Tryz.prog 12 = false := by kernel_rfl
@[go_sem] theorem tab88 : tElem Tryz.prog 12 = none := by kernel_rfl
@[go_sem] theorem tab89 : tInt Tryz.prog 12 = some .u64 := by kernel_rfl
@[go_sem] theorem tab90 : tSize Tryz.prog 13 = some 2 := by kernel_rfl
@[go_sem] theorem tab91 : tAgg Tryz.prog 13 = some true := by kernel_rfl
@[go_sem] theorem tab92 : tZero Tryz.prog 13 = some [.t (.str ⟨#[]⟩), .t (.int .u64 0)] := by kernel_rfl
@[go_sem] theorem tab93 : tBytes Tryz.prog 13 = some 24 := by kernel_rfl
@[go_sem] theorem tab94 : (Program.underlying Tryz.prog 13).isSome = true := by kernel_rfl
@[go_sem] theorem tab95 : tStr Tryz.prog 13 = false := by kernel_rfl
@[go_sem] theorem tab96 : tField Tryz.prog 13 0 = some (0, 9) := by kernel_rfl
@[go_sem] theorem tab97 : tField Tryz.prog 13 1 = some (1, 12) := by kernel_rfl
@[go_sem] theorem tab98 : tFields Tryz.prog 13 = true := by kernel_rfl
@[go_sem] theorem tab99 : tSize Tryz.prog 14 = some 2 := by kernel_rfl
@[go_sem] theorem tab100 : tAgg Tryz.prog 14 = some true := by kernel_rfl
@[go_sem] theorem tab101 : tZero Tryz.prog 14 = some [.t (.str ⟨#[]⟩), .t (.int .u64 0)] := by kernel_rfl
@[go_sem] theorem tab102 : tBytes Tryz.prog 14 = some 24 := by kernel_rfl
@[go_sem] theorem tab103 : (Program.underlying Tryz.prog 14).isSome = true := by kernel_rfl
@[go_sem] theorem tab104 : tStr Tryz.prog 14 = false := by kernel_rfl
@[go_sem] theorem tab105 : tField Tryz.prog 14 0 = some (0, 9) := by kernel_rfl
@[go_sem] theorem tab106 : tField Tryz.prog 14 1 = some (1, 12) := by kernel_rfl
@[go_sem] theorem tab107 : tFields Tryz.prog 14 = true := by kernel_rfl
@[go_sem] theorem tab108 : tSize Tryz.prog 20 = some 1 := by kernel_rfl
@[go_sem] theorem tab109 : tAgg Tryz.prog 20 = some false := by kernel_rfl
@[go_sem] theorem tab110 : tBytes Tryz.prog 20 = some 16 := by kernel_rfl
@[go_sem] theorem tab111 : (Program.underlying Tryz.prog 20).isSome = true := by kernel_rfl
@[go_sem] theorem tab112 : tStr Tryz.prog 20 = false := by kernel_rfl
@[go_sem] theorem tab113 : tIface Tryz.prog 20 = true := by kernel_rfl
@[go_sem] theorem tab114 : tSize Tryz.prog 21 = some 1 := by kernel_rfl
@[go_sem] theorem tab115 : tAgg Tryz.prog 21 = some false := by kernel_rfl
@[go_sem] theorem tab116 : tZero Tryz.prog 21 = some [.t (.int .i32 0)] := by kernel_rfl
@[go_sem] theorem tab117 : tBytes Tryz.prog 21 = some 4 := by kernel_rfl
@[go_sem] theorem tab118 : (Program.underlying Tryz.prog 21).isSome = true := by kernel_rfl
@[go_sem] theorem tab119 : tStr Tryz.prog 21 = false := by kernel_rfl
@[go_sem] theorem tab120 : tElem Tryz.prog 21 = none := by kernel_rfl
@[go_sem] theorem tab121 : tInt Tryz.prog 21 = some .i32 := by kernel_rfl
@[go_sem] theorem tab122 : tSize Tryz.prog 22 = some 1 := by kernel_rfl
@[go_sem] theorem tab123 : tAgg Tryz.prog 22 = some false := by kernel_rfl
@[go_sem] theorem tab124 : tZero Tryz.prog 22 = some [.nil0] := by kernel_rfl
@[go_sem] theorem tab125 : tBytes Tryz.prog 22 = some 24 := by kernel_rfl
@[go_sem] theorem tab126 : (Program.underlying Tryz.prog 22).isSome = true := by kernel_rfl
@[go_sem] theorem tab127 : tElem Tryz.prog 22 = some 49 := by kernel_rfl
@[go_sem] theorem tab128 : tStr Tryz.prog 22 = false := by kernel_rfl
@[go_sem] theorem tab129 : tSize Tryz.prog 23 = some 1 := by kernel_rfl
@[go_sem] theorem tab130 : tAgg Tryz.prog 23 = some true := by kernel_rfl
@[go_sem] theorem tab131 : tZero Tryz.prog 23 = some [.nil0] := by kernel_rfl
@[go_sem] theorem tab132 : tBytes Tryz.prog 23 = some 24 := by kernel_rfl
@[go_sem] theorem tab133 : (Program.underlying Tryz.prog 23).isSome = true := by kernel_rfl
@[go_sem] theorem tab134 : tStr Tryz.prog 23 = false := by kernel_rfl
@[go_sem] theorem tab135 : tField Tryz.prog 23 0 = some (0, 22) := by kernel_rfl
@[go_sem] theorem tab136 : tFields Tryz.prog 23 = true := by kernel_rfl
@[go_sem] theorem tab137 : tSize Tryz.prog 24 = some 1 := by kernel_rfl
@[go_sem] theorem tab138 : tAgg Tryz.prog 24 = some true := by kernel_rfl
@[go_sem] theorem tab139 : tZero Tryz.prog 24 = some [.nil0] := by kernel_rfl
@[go_sem] theorem tab140 : tBytes Tryz.prog 24 = some 24 := by kernel_rfl
@[go_sem] theorem tab141 : (Program.underlying Tryz.prog 24).isSome = true := by kernel_rfl
@[go_sem] theorem tab142 : tStr Tryz.prog 24 = false := by kernel_rfl
@[go_sem] theorem tab143 : tField Tryz.prog 24 0 = some (0, 22) := by kernel_rfl
@[go_sem] theorem tab144 : tFields Tryz.prog 24 = true := by kernel_rfl
@[go_sem] theorem tab145 : tSize Tryz.prog 27 = some 1 := by kernel_rfl
@[go_sem] theorem tab146 : tAgg Tryz.prog 27 = some false := by kernel_rfl
@[go_sem] theorem tab147 : tZero Tryz.prog 27 = some [.nil0] := by kernel_rfl
@[go_sem] theorem tab148 : tBytes Tryz.prog 27 = some 24 := by kernel_rfl
@[go_sem] theorem tab149 : (Program.underlying Tryz.prog 27).isSome = true := by kernel_rfl
@[go_sem] theorem tab150 : tElem Tryz.prog 27 = some 41 := by kernel_rfl
@[go_sem] theorem tab151 : tStr Tryz.prog 27 = false := by kernel_rfl
@[go_sem] theorem tab152 : tSize Tryz.prog 28 = some 1 := by kernel_rfl
@[go_sem] theorem tab153 : tAgg Tryz.prog 28 = some true := by kernel_rfl
@[go_sem] theorem tab154 : tZero Tryz.prog 28 = some [.nil0] := by kernel_rfl
@[go_sem] theorem tab155 : tBytes Tryz.prog 28 = some 24 := by kernel_rfl
@[go_sem] theorem tab156 : (Program.underlying Tryz.prog 28).isSome = true := by kernel_rfl
@[go_sem] theorem tab157 : tStr Tryz.prog 28 = false := by kernel_rfl
@[go_sem] theorem tab158 : tField Tryz.prog 28 0 = some (0, 27) := by kernel_rfl
@[go_sem] theorem tab159 : tFields Tryz.prog 28 = true := by kernel_rfl
@[go_sem] theorem tab160 : tSize Tryz.prog 29 = some 1 := by kernel_rfl
@[go_sem] theorem tab161 : tAgg Tryz.prog 29 = some true := by kernel_rfl
@[go_sem] theorem tab162 : tZero Tryz.prog 29 = some [.nil0] := by kernel_rfl
@[go_sem] theorem tab163 : tBytes Tryz.prog 29 = some 24 := by kernel_rfl
@[go_sem] theorem tab164 : (Program.underlying Tryz.prog 29).isSome = true := by kernel_rfl
@[go_sem] theorem tab165 : tStr Tryz.prog 29 = false := by kernel_rfl
@[go_sem] theorem tab166 : tField Tryz.prog 29 0 = some (0, 27) := by kernel_rfl
@[go_sem] theorem tab167 : tFields Tryz.prog 29 = true := by kernel_rfl
@[go_sem] theorem tab168 : tSize Tryz.prog 36 = some 1 := by kernel_rfl
@[go_sem] theorem tab169 : tAgg Tryz.prog 36 = some false := by kernel_rfl
@[go_sem] theorem tab170 : tZero Tryz.prog 36 = some [.nil0] := by kernel_rfl
@[go_sem] theorem tab171 : tBytes Tryz.prog 36 = some 24 := by kernel_rfl
@[go_sem] theorem tab172 : (Program.underlying Tryz.prog 36).isSome = true := by kernel_rfl
@[go_sem] theorem tab173 : tElem Tryz.prog 36 = some 9 := by kernel_rfl
@[go_sem] theorem tab174 : tStr Tryz.prog 36 = false := by kernel_rfl
@[go_sem] theorem tab175 : tSize Tryz.prog 37 = some 1 := by kernel_rfl
@[go_sem] theorem tab176 : tAgg Tryz.prog 37 = some false := by kernel_rfl
@[go_sem] theorem tab177 : tZero Tryz.prog 37 = some [.nil0] := by kernel_rfl
@[go_sem] theorem tab178 : tBytes Tryz.prog 37 = some 24 := by kernel_rfl
@[go_sem] theorem tab179 : (Program.underlying Tryz.prog 37).isSome = true := by kernel_rfl
@[go_sem] theorem tab180 : tElem Tryz.prog 37 = some 39 := by kernel_rfl
@[go_sem] theorem tab181 : tStr Tryz.prog 37 = false := by kernel_rfl
@[go_sem] theorem tab182 : tSize Tryz.prog 38 = some 3 := by kernel_rfl
@[go_sem] theorem tab183 : tAgg Tryz.prog 38 = some true := by kernel_rfl
@[go_sem] theorem tab184 : tZero Tryz.prog 38 = some [.t (.int .i64 0), .t (.str ⟨#[]⟩), .nil0] := by kernel_rfl
@[go_sem] theorem tab185 : tBytes Tryz.prog 38 = some 48 := by kernel_rfl
@[go_sem] theorem tab186 : (Program.underlying Tryz.prog 38).isSome = true := by kernel_rfl
@[go_sem] theorem tab187 : tStr Tryz.prog 38 = false := by kernel_rfl
@[go_sem] theorem tab188 : tField Tryz.prog 38 0 = some (0, 3) := by kernel_rfl
@[go_sem] theorem tab189 : tField Tryz.prog 38 1 = some (1, 9) := by kernel_rfl
@[go_sem] theorem tab190 : tField Tryz.prog 38 2 = some (2, 37) := by kernel_rfl
@[go_sem] theorem tab191 : tFields Tryz.prog 38 = true := by kernel_rfl
@[go_sem] theorem tab192 : tSize Tryz.prog 39 = some 3 := by kernel_rfl
@[go_sem] theorem tab193 : tAgg Tryz.prog 39 = some true := by kernel_rfl
@[go_sem] theorem tab194 : tZero Tryz.prog 39 = some [.t (.int .i64 0), .t (.str ⟨#[]⟩), .nil0] := by kernel_rfl
@[go_sem] theorem tab195 : tBytes Tryz.prog 39 = some 48 := by kernel_rfl
@[go_sem] theorem tab196 : (Program.underlying Tryz.prog 39).isSome = true := by kernel_rfl
@[go_sem] theorem tab197 : tStr Tryz.prog 39 = false := by kernel_rfl
@[go_sem] theorem tab198 : tField Tryz.prog 39 0 = some (0, 3) := by kernel_rfl
@[go_sem] theorem tab199 : tField Tryz.prog 39 1 = some (1, 9) := by kernel_rfl
@[go_sem] theorem tab200 : tField Tryz.prog 39 2 = some (2, 37) := by kernel_rfl
@[go_sem] theorem tab201 : tFields Tryz.prog 39 = true := by kernel_rfl
@[go_sem] theorem tab202 : tSize Tryz.prog 40 = some 7 := by kernel_rfl
@[go_sem] theorem tab203 : tAgg Tryz.prog 40 = some true := by kernel_rfl
@[go_sem] theorem tab204 : tZero Tryz.prog 40 = some [.t (.str ⟨#[]⟩), .t (.str ⟨#[]⟩), .nil0, .nil0, .t (.int .i64 0), .t (.str ⟨#[]⟩), .nil0] := by kernel_rfl
@[go_sem] theorem tab205 : tBytes Tryz.prog 40 = some 128 := by kernel_rfl
@[go_sem] theorem tab206 : (Program.underlying Tryz.prog 40).isSome = true := by kernel_rfl
@[go_sem] theorem tab207 : tStr Tryz.prog 40 = false := by kernel_rfl
@[go_sem] theorem tab208 : tField Tryz.prog 40 0 = some (0, 9) := by kernel_rfl
@[go_sem] theorem tab209 : tField Tryz.prog 40 1 = some (1, 9) := by kernel_rfl
@[go_sem] theorem tab210 : tField Tryz.prog 40 2 = some (2, 36) := by kernel_rfl
@[go_sem] theorem tab211 : tField Tryz.prog 40 3 = some (3, 36) := by kernel_rfl
@[go_sem] theorem tab212 : tField Tryz.prog 40 4 = some (4, 39) := by kernel_rfl
@[go_sem] theorem tab213 : tFields Tryz.prog 40 = true := by kernel_rfl
@[go_sem] theorem tab214 : tSize Tryz.prog 41 = some 7 := by kernel_rfl
@[go_sem] theorem tab215 : tAgg Tryz.prog 41 = some true := by kernel_rfl
@[go_sem] theorem tab216 : tZero Tryz.prog 41 = some [.t (.str ⟨#[]⟩), .t (.str ⟨#[]⟩), .nil0, .nil0, .t (.int .i64 0), .t (.str ⟨#[]⟩), .nil0] := by kernel_rfl
@[go_sem] theorem tab217 : tBytes Tryz.prog 41 = some 128 := by kernel_rfl
@[go_sem] theorem tab218 : (Program.underlying Tryz.prog 41).isSome = true := by kernel_rfl
@[go_sem] theorem tab219 : tStr Tryz.prog 41 = false := by kernel_rfl
@[go_sem] theorem tab220 : tField Tryz.prog 41 0 = some (0, 9) := by kernel_rfl
@[go_sem] theorem tab221 : tField Tryz.prog 41 1 = some (1, 9) := by kernel_rfl
@[go_sem] theorem tab222 : tField Tryz.prog 41 2 = some (2, 36) := by kernel_rfl
@[go_sem] theorem tab223 : tField Tryz.prog 41 3 = some (3, 36) := by kernel_rfl
@[go_sem] theorem tab224 : tField Tryz.prog 41 4 = some (4, 39) := by kernel_rfl
@[go_sem] theorem tab225 : tFields Tryz.prog 41 = true := by kernel_rfl
@[go_sem] theorem tab226 : tSize Tryz.prog 45 = some 1 := by kernel_rfl
@[go_sem] theorem tab227 : tAgg Tryz.prog 45 = some false := by kernel_rfl
@[go_sem] theorem tab228 : tZero Tryz.prog 45 = some [.nil0] := by kernel_rfl
@[go_sem] theorem tab229 : tBytes Tryz.prog 45 = some 24 := by kernel_rfl
@[go_sem] theorem tab230 : (Program.underlying Tryz.prog 45).isSome = true := by kernel_rfl
@[go_sem] theorem tab231 : tElem Tryz.prog 45 = some 47 := by kernel_rfl
@[go_sem] theorem tab232 : tStr Tryz.prog 45 = false := by kernel_rfl
@[go_sem] theorem tab233 : tSize Tryz.prog 46 = some 3 := by kernel_rfl
@[go_sem] theorem tab234 : tAgg Tryz.prog 46 = some true := by kernel_rfl
@[go_sem] theorem tab235 : tZero Tryz.prog 46 = some [.t (.int .i64 0), .t (.str ⟨#[]⟩), .nil0] := by kernel_rfl
@[go_sem] theorem tab236 : tBytes Tryz.prog 46 = some 48 := by kernel_rfl
@[go_sem] theorem tab237 : (Program.underlying Tryz.prog 46).isSome = true := by kernel_rfl
@[go_sem] theorem tab238 : tStr Tryz.prog 46 = false := by kernel_rfl
@[go_sem] theorem tab239 : tField Tryz.prog 46 0 = some (0, 3) := by kernel_rfl
@[go_sem] theorem tab240 : tField Tryz.prog 46 1 = some (1, 9) := by kernel_rfl
@[go_sem] theorem tab241 : tField Tryz.prog 46 2 = some (2, 45) := by kernel_rfl
@[go_sem] theorem tab242 : tFields Tryz.prog 46 = true := by kernel_rfl
@[go_sem] theorem tab243 : tSize Tryz.prog 47 = some 3 := by kernel_rfl
@[go_sem] theorem tab244 : tAgg Tryz.prog 47 = some true := by kernel_rfl
@[go_sem] theorem tab245 : tZero Tryz.prog 47 = some [.t (.int .i64 0), .t (.str ⟨#[]⟩), .nil0] := by kernel_rfl
@[go_sem] theorem tab246 : tBytes Tryz.prog 47 = some 48 := by kernel_rfl
@[go_sem] theorem tab247 : (Program.underlying Tryz.prog 47).isSome = true := by kernel_rfl
@[go_sem] theorem tab248 : tStr Tryz.prog 47 = false := by kernel_rfl
@[go_sem] theorem tab249 : tField Tryz.prog 47 0 = some (0, 3) := by kernel_rfl
@[go_sem] theorem tab250 : tField Tryz.prog 47 1 = some (1, 9) := by kernel_rfl
@[go_sem] theorem tab251 : tField Tryz.prog 47 2 = some (2, 45) := by kernel_rfl
@[go_sem] theorem tab252 : tFields Tryz.prog 47 = true := by kernel_rfl
@[go_sem] theorem tab253 : tSize Tryz.prog 48 = some 7 := by kernel_rfl
@[go_sem] theorem tab254 : tAgg Tryz.prog 48 = some true := by kernel_rfl
@[go_sem] theorem tab255 : tZero Tryz.prog 48 = some [.t (.str ⟨#[]⟩), .t (.str ⟨#[]⟩), .nil0, .nil0, .t (.int .i64 0), .t (.str ⟨#[]⟩), .nil0] := by kernel_rfl
@[go_sem] theorem tab256 : tBytes Tryz.prog 48 = some 128 := by kernel_rfl
@[go_sem] theorem tab257 : (Program.underlying Tryz.prog 48).isSome = true := by kernel_rfl
@[go_sem] theorem tab258 : tStr Tryz.prog 48 = false := by kernel_rfl
@[go_sem] theorem tab259 : tField Tryz.prog 48 0 = some (0, 9) := by kernel_rfl
@[go_sem] theorem tab260 : tField Tryz.prog 48 1 = some (1, 9) := by kernel_rfl
@[go_sem] theorem tab261 : tField Tryz.prog 48 2 = some (2, 36) := by kernel_rfl
@[go_sem] theorem tab262 : tField Tryz.prog 48 3 = some (3, 36) := by kernel_rfl
@[go_sem] theorem tab263 : tField Tryz.prog 48 4 = some (4, 47) := by kernel_rfl
@[go_sem] theorem tab264 : tFields Tryz.prog 48 = true := by kernel_rfl
@[go_sem] theorem tab265 : tSize Tryz.prog 49 = some 7 := by kernel_rfl
@[go_sem] theorem tab266 : tAgg Tryz.prog 49 = some true := by kernel_rfl
@[go_sem] theorem tab267 : tZero Tryz.prog 49 = some [.t (.str ⟨#[]⟩), .t (.str ⟨#[]⟩), .nil0, .nil0, .t (.int .i64 0), .t (.str ⟨#[]⟩), .nil0] := by kernel_rfl
@[go_sem] theorem tab268 : tBytes Tryz.prog 49 = some 128 := by kernel_rfl
@[go_sem] theorem tab269 : (Program.underlying Tryz.prog 49).isSome = true := by kernel_rfl
@[go_sem] theorem tab270 : tStr Tryz.prog 49 = false := by kernel_rfl
@[go_sem] theorem tab271 : tField Tryz.prog 49 0 = some (0, 9) := by kernel_rfl
@[go_sem] theorem tab272 : tField Tryz.prog 49 1 = some (1, 9) := by kernel_rfl
@[go_sem] theorem tab273 : tField Tryz.prog 49 2 = some (2, 36) := by kernel_rfl
@[go_sem] theorem tab274 : tField Tryz.prog 49 3 = some (3, 36) := by kernel_rfl
@[go_sem] theorem tab275 : tField Tryz.prog 49 4 = some (4, 47) := by kernel_rfl
@[go_sem] theorem tab276 : tFields Tryz.prog 49 = true := by kernel_rfl
@[go_sem] theorem tab277 : mKey Tryz.prog 56 = true := by kernel_rfl
@[go_sem] theorem tab278 : mZero Tryz.prog 56 = some (.t (.int .i64 0)) := by kernel_rfl
@[go_sem] theorem tab279 : tSize Tryz.prog 56 = some 1 := by kernel_rfl
@[go_sem] theorem tab280 : tAgg Tryz.prog 56 = some false := by kernel_rfl
@[go_sem] theorem tab281 : tZero Tryz.prog 56 = some [.undef] := by kernel_rfl
@[go_sem] theorem tab282 : tBytes Tryz.prog 56 = some 8 := by kernel_rfl
@[go_sem] theorem tab283 : tSize Tryz.prog 71 = some 1 := by kernel_rfl
@[go_sem] theorem tab284 : tAgg Tryz.prog 71 = some false := by kernel_rfl
@[go_sem] theorem tab285 : tZero Tryz.prog 71 = some [.nil0] := by kernel_rfl
@[go_sem] theorem tab286 : tBytes Tryz.prog 71 = some 24 := by kernel_rfl
@[go_sem] theorem tab287 : (Program.underlying Tryz.prog 71).isSome = true := by kernel_rfl
@[go_sem] theorem tab288 : tElem Tryz.prog 71 = some 5 := by kernel_rfl
@[go_sem] theorem tab289 : tStr Tryz.prog 71 = false := by kernel_rfl
@[go_sem] theorem tab290 : tSize Tryz.prog 84 = some 1 := by kernel_rfl
@[go_sem] theorem tab291 : tAgg Tryz.prog 84 = some false := by kernel_rfl
@[go_sem] theorem tab292 : tZero Tryz.prog 84 = some [.nil0] := by kernel_rfl
@[go_sem] theorem tab293 : tBytes Tryz.prog 84 = some 24 := by kernel_rfl
@[go_sem] theorem tab294 : (Program.underlying Tryz.prog 84).isSome = true := by kernel_rfl
@[go_sem] theorem tab295 : tElem Tryz.prog 84 = some 36 := by kernel_rfl
@[go_sem] theorem tab296 : tStr Tryz.prog 84 = false := by kernel_rfl
@[go_sem] theorem tab297 : tSize Tryz.prog 92 = some 1 := by kernel_rfl
@[go_sem] theorem tab298 : tAgg Tryz.prog 92 = some false := by kernel_rfl
@[go_sem] theorem tab299 : tBytes Tryz.prog 92 = some 16 := by kernel_rfl
@[go_sem] theorem tab300 : (Program.underlying Tryz.prog 92).isSome = true := by kernel_rfl
@[go_sem] theorem tab301 : tStr Tryz.prog 92 = false := by kernel_rfl
@[go_sem] theorem tab302 : tIface Tryz.prog 92 = true := by kernel_rfl
@[go_sem] theorem tab303 : tSize Tryz.prog 93 = some 1 := by kernel_rfl
@[go_sem] theorem tab304 : tAgg Tryz.prog 93 = some false := by kernel_rfl
@[go_sem] theorem tab305 : tBytes Tryz.prog 93 = some 16 := by kernel_rfl
@[go_sem] theorem tab306 : (Program.underlying Tryz.prog 93).isSome = true := by kernel_rfl
@[go_sem] theorem tab307 : tStr Tryz.prog 93 = false := by kernel_rfl
@[go_sem] theorem tab308 : tIface Tryz.prog 93 = true := by kernel_rfl
@[go_sem] theorem tab309 : tSize Tryz.prog 123 = some 1 := by kernel_rfl
@[go_sem] theorem tab310 : tAgg Tryz.prog 123 = some false := by kernel_rfl
@[go_sem] theorem tab311 : tZero Tryz.prog 123 = some [.t (.int .u32 0)] := by kernel_rfl
@[go_sem] theorem tab312 : tBytes Tryz.prog 123 = some 4 := by kernel_rfl
@[go_sem] theorem tab313 : (Program.underlying Tryz.prog 123).isSome = true := by kernel_rfl
@[go_sem] theorem tab314 : tStr Tryz.prog 123 = false := by kernel_rfl
@[go_sem] theorem tab315 : tElem Tryz.prog 123 = none := by kernel_rfl
@[go_sem] theorem tab316 : tInt Tryz.prog 123 = some .u32 := by kernel_rfl
@[go_sem] theorem tab317 : tSize Tryz.prog 124 = some 1 := by kernel_rfl
@[go_sem] theorem tab318 : tAgg Tryz.prog 124 = some false := by kernel_rfl
@[go_sem] theorem tab319 : tZero Tryz.prog 124 = some [.t (.int .u8 0)] := by kernel_rfl
@[go_sem] theorem tab320 : tBytes Tryz.prog 124 = some 1 := by kernel_rfl
@[go_sem] theorem tab321 : (Program.underlying Tryz.prog 124).isSome = true := by kernel_rfl
@[go_sem] theorem tab322 : tStr Tryz.prog 124 = false := by kernel_rfl
@[go_sem] theorem tab323 : tElem Tryz.prog 124 = none := by kernel_rfl
@[go_sem] theorem tab324 : tInt Tryz.prog 124 = some .u8 := by kernel_rfl
@[go_sem] theorem tab325 : tSize Tryz.prog 125 = some 1 := by kernel_rfl
@[go_sem] theorem tab326 : tAgg Tryz.prog 125 = some false := by kernel_rfl
@[go_sem] theorem tab327 : tZero Tryz.prog 125 = some [.t (.int .u8 0)] := by kernel_rfl
@[go_sem] theorem tab328 : tBytes Tryz.prog 125 = some 1 := by kernel_rfl
@[go_sem] theorem tab329 : (Program.underlying Tryz.prog 125).isSome = true := by kernel_rfl
@[go_sem] theorem tab330 : tStr Tryz.prog 125 = false := by kernel_rfl
@[go_sem] theorem tab331 : tElem Tryz.prog 125 = none := by kernel_rfl
@[go_sem] theorem tab332 : tInt Tryz.prog 125 = some .u8 := by kernel_rfl
@[go_sem] theorem tab333 : tSize Tryz.prog 127 = some 1 := by kernel_rfl
@[go_sem] theorem tab334 : tAgg Tryz.prog 127 = some false := by kernel_rfl
@[go_sem] theorem tab335 : tZero Tryz.prog 127 = some [.t (.int .i32 0)] := by kernel_rfl
@[go_sem] theorem tab336 : tBytes Tryz.prog 127 = some 4 := by kernel_rfl
@[go_sem] theorem tab337 : (Program.underlying Tryz.prog 127).isSome = true := by kernel_rfl
@[go_sem] theorem tab338 : tStr Tryz.prog 127 = false := by kernel_rfl
@[go_sem] theorem tab339 : tElem Tryz.prog 127 = none := by kernel_rfl
@[go_sem] theorem tab340 : tInt Tryz.prog 127 = some .i32 := by kernel_rfl
@[go_sem] theorem tab341 : tSize Tryz.prog 128 = some 1 := by kernel_rfl
@[go_sem] theorem tab342 : tAgg Tryz.prog 128 = some false := by kernel_rfl
@[go_sem] theorem tab343 : tZero Tryz.prog 128 = some [.t (.int .i32 0)] := by kernel_rfl
@[go_sem] theorem tab344 : tBytes Tryz.prog 128 = some 4 := by kernel_rfl
@[go_sem] theorem tab345 : (Program.underlying Tryz.prog 128).isSome = true := by kernel_rfl
@[go_sem] theorem tab346 : tStr Tryz.prog 128 = false := by kernel_rfl
@[go_sem] theorem tab347 : tElem Tryz.prog 128 = none := by kernel_rfl
@[go_sem] theorem tab348 : tInt Tryz.prog 128 = some .i32 := by kernel_rfl
end Go.Proofs.YtldhhppfnhgcdaaGreat
