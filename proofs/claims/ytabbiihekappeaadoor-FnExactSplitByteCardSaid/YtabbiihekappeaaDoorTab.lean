/- Facts on the seat's types, for walks by rewriting. -/
import Derived.Test.YtabbiihekappeaaDoorProg
import Derived.Test.YtabbiihekappeaaDoorV28
import Derived.KernelRfl
namespace Go.Proofs.YtabbiihekappeaaDoor
open Go Go.VL
theorem mixed : Tryd.prog.follows .mixedOrders = true := by kernel_rfl
@[go_sem] theorem tab0 : tSize Tryd.prog 2 = some 1 := by kernel_rfl
@[go_sem] theorem tab1 : tAgg Tryd.prog 2 = some false := by kernel_rfl
@[go_sem] theorem tab2 : tZero Tryd.prog 2 = some [.t (.int .i64 0)] := by kernel_rfl
@[go_sem] theorem tab3 : tBytes Tryd.prog 2 = some 8 := by kernel_rfl
@[go_sem] theorem tab4 : (Program.underlying Tryd.prog 2).isSome = true := by kernel_rfl
@[go_sem] theorem tab5 : tStr Tryd.prog 2 = false := by kernel_rfl
@[go_sem] theorem tab6 : tElem Tryd.prog 2 = none := by kernel_rfl
@[go_sem] theorem tab7 : tInt Tryd.prog 2 = some .i64 := by kernel_rfl
@[go_sem] theorem tab8 : tSize Tryd.prog 3 = some 1 := by kernel_rfl
@[go_sem] theorem tab9 : tAgg Tryd.prog 3 = some false := by kernel_rfl
@[go_sem] theorem tab10 : tZero Tryd.prog 3 = some [.t (.int .i64 0)] := by kernel_rfl
@[go_sem] theorem tab11 : tBytes Tryd.prog 3 = some 8 := by kernel_rfl
@[go_sem] theorem tab12 : (Program.underlying Tryd.prog 3).isSome = true := by kernel_rfl
@[go_sem] theorem tab13 : tStr Tryd.prog 3 = false := by kernel_rfl
@[go_sem] theorem tab14 : tElem Tryd.prog 3 = none := by kernel_rfl
@[go_sem] theorem tab15 : tInt Tryd.prog 3 = some .i64 := by kernel_rfl
@[go_sem] theorem tab16 : tSize Tryd.prog 4 = some 1 := by kernel_rfl
@[go_sem] theorem tab17 : tAgg Tryd.prog 4 = some false := by kernel_rfl
@[go_sem] theorem tab18 : tZero Tryd.prog 4 = some [.t (.bool false)] := by kernel_rfl
@[go_sem] theorem tab19 : tBytes Tryd.prog 4 = some 1 := by kernel_rfl
@[go_sem] theorem tab20 : (Program.underlying Tryd.prog 4).isSome = true := by kernel_rfl
@[go_sem] theorem tab21 : tStr Tryd.prog 4 = false := by kernel_rfl
@[go_sem] theorem tab22 : tBool Tryd.prog 4 = true := by kernel_rfl
@[go_sem] theorem tab23 : tSize Tryd.prog 5 = some 1 := by kernel_rfl
@[go_sem] theorem tab24 : tAgg Tryd.prog 5 = some false := by kernel_rfl
@[go_sem] theorem tab25 : tZero Tryd.prog 5 = some [.t (.int .u8 0)] := by kernel_rfl
@[go_sem] theorem tab26 : tBytes Tryd.prog 5 = some 1 := by kernel_rfl
@[go_sem] theorem tab27 : (Program.underlying Tryd.prog 5).isSome = true := by kernel_rfl
@[go_sem] theorem tab28 : tStr Tryd.prog 5 = false := by kernel_rfl
@[go_sem] theorem tab29 : tElem Tryd.prog 5 = none := by kernel_rfl
@[go_sem] theorem tab30 : tInt Tryd.prog 5 = some .u8 := by kernel_rfl
@[go_sem] theorem tab31 : tSize Tryd.prog 6 = some 1 := by kernel_rfl
@[go_sem] theorem tab32 : tAgg Tryd.prog 6 = some false := by kernel_rfl
@[go_sem] theorem tab33 : tZero Tryd.prog 6 = some [.t (.int .u8 0)] := by kernel_rfl
@[go_sem] theorem tab34 : tBytes Tryd.prog 6 = some 1 := by kernel_rfl
@[go_sem] theorem tab35 : (Program.underlying Tryd.prog 6).isSome = true := by kernel_rfl
@[go_sem] theorem tab36 : tStr Tryd.prog 6 = false := by kernel_rfl
@[go_sem] theorem tab37 : tElem Tryd.prog 6 = none := by kernel_rfl
@[go_sem] theorem tab38 : tInt Tryd.prog 6 = some .u8 := by kernel_rfl
@[go_sem] theorem tab39 : tSize Tryd.prog 7 = some 4 := by kernel_rfl
@[go_sem] theorem tab40 : tAgg Tryd.prog 7 = some true := by kernel_rfl
@[go_sem] theorem tab41 : tZero Tryd.prog 7 = some [.t (.int .i64 0), .t (.int .i64 0), .t (.bool false), .t (.int .u8 0)] := by kernel_rfl
@[go_sem] theorem tab42 : tBytes Tryd.prog 7 = some 24 := by kernel_rfl
@[go_sem] theorem tab43 : (Program.underlying Tryd.prog 7).isSome = true := by kernel_rfl
@[go_sem] theorem tab44 : tStr Tryd.prog 7 = false := by kernel_rfl
@[go_sem] theorem tab45 : tField Tryd.prog 7 0 = some (0, 2) := by kernel_rfl
@[go_sem] theorem tab46 : tField Tryd.prog 7 1 = some (1, 3) := by kernel_rfl
@[go_sem] theorem tab47 : tField Tryd.prog 7 2 = some (2, 4) := by kernel_rfl
@[go_sem] theorem tab48 : tField Tryd.prog 7 3 = some (3, 6) := by kernel_rfl
@[go_sem] theorem tab49 : tFields Tryd.prog 7 = true := by kernel_rfl
@[go_sem] theorem tab50 : tSize Tryd.prog 8 = some 4 := by kernel_rfl
@[go_sem] theorem tab51 : tAgg Tryd.prog 8 = some true := by kernel_rfl
@[go_sem] theorem tab52 : tZero Tryd.prog 8 = some [.t (.int .i64 0), .t (.int .i64 0), .t (.bool false), .t (.int .u8 0)] := by kernel_rfl
@[go_sem] theorem tab53 : tBytes Tryd.prog 8 = some 24 := by kernel_rfl
@[go_sem] theorem tab54 : (Program.underlying Tryd.prog 8).isSome = true := by kernel_rfl
@[go_sem] theorem tab55 : tStr Tryd.prog 8 = false := by kernel_rfl
@[go_sem] theorem tab56 : tField Tryd.prog 8 0 = some (0, 2) := by kernel_rfl
@[go_sem] theorem tab57 : tField Tryd.prog 8 1 = some (1, 3) := by kernel_rfl
@[go_sem] theorem tab58 : tField Tryd.prog 8 2 = some (2, 4) := by kernel_rfl
@[go_sem] theorem tab59 : tField Tryd.prog 8 3 = some (3, 6) := by kernel_rfl
@[go_sem] theorem tab60 : tFields Tryd.prog 8 = true := by kernel_rfl
@[go_sem] theorem tab61 : tSize Tryd.prog 9 = some 1 := by kernel_rfl
@[go_sem] theorem tab62 : tAgg Tryd.prog 9 = some false := by kernel_rfl
@[go_sem] theorem tab63 : tZero Tryd.prog 9 = some [.t (.str ⟨#[]⟩)] := by kernel_rfl
@[go_sem] theorem tab64 : tBytes Tryd.prog 9 = some 16 := by kernel_rfl
@[go_sem] theorem tab65 : (Program.underlying Tryd.prog 9).isSome = true := by kernel_rfl
@[go_sem] theorem tab66 : tStr Tryd.prog 9 = true := by kernel_rfl
@[go_sem] theorem tab67 : tElem Tryd.prog 9 = none := by kernel_rfl
@[go_sem] theorem tab68 : tSize Tryd.prog 10 = some 1 := by kernel_rfl
@[go_sem] theorem tab69 : tAgg Tryd.prog 10 = some false := by kernel_rfl
@[go_sem] theorem tab70 : tZero Tryd.prog 10 = some [.t (.str ⟨#[]⟩)] := by kernel_rfl
@[go_sem] theorem tab71 : tBytes Tryd.prog 10 = some 16 := by kernel_rfl
@[go_sem] theorem tab72 : (Program.underlying Tryd.prog 10).isSome = true := by kernel_rfl
@[go_sem] theorem tab73 : tStr Tryd.prog 10 = true := by kernel_rfl
@[go_sem] theorem tab74 : tElem Tryd.prog 10 = none := by kernel_rfl
@[go_sem] theorem tab75 : tSize Tryd.prog 11 = some 1 := by kernel_rfl
@[go_sem] theorem tab76 : tAgg Tryd.prog 11 = some false := by kernel_rfl
@[go_sem] theorem tab77 : tZero Tryd.prog 11 = some [.t (.str ⟨#[]⟩)] := by kernel_rfl
@[go_sem] theorem tab78 : tBytes Tryd.prog 11 = some 16 := by kernel_rfl
@[go_sem] theorem tab79 : (Program.underlying Tryd.prog 11).isSome = true := by kernel_rfl
@[go_sem] theorem tab80 : tStr Tryd.prog 11 = true := by kernel_rfl
@[go_sem] theorem tab81 : tElem Tryd.prog 11 = none := by kernel_rfl
@[go_sem] theorem tab82 : tSize Tryd.prog 12 = some 1 := by kernel_rfl
@[go_sem] theorem tab83 : tAgg Tryd.prog 12 = some false := by kernel_rfl
@[go_sem] theorem tab84 : tZero Tryd.prog 12 = some [.t (.int .u64 0)] := by kernel_rfl
@[go_sem] theorem tab85 : tBytes Tryd.prog 12 = some 8 := by kernel_rfl
@[go_sem] theorem tab86 : (Program.underlying Tryd.prog 12).isSome = true := by kernel_rfl
@[go_sem] theorem tab87 : tStr Tryd.prog 12 = false := by kernel_rfl
@[go_sem] theorem tab88 : tElem Tryd.prog 12 = none := by kernel_rfl
@[go_sem] theorem tab89 : tInt Tryd.prog 12 = some .u64 := by kernel_rfl
@[go_sem] theorem tab90 : tSize Tryd.prog 13 = some 2 := by kernel_rfl
@[go_sem] theorem tab91 : tAgg Tryd.prog 13 = some true := by kernel_rfl
@[go_sem] theorem tab92 : tZero Tryd.prog 13 = some [.t (.str ⟨#[]⟩), .t (.int .u64 0)] := by kernel_rfl
@[go_sem] theorem tab93 : tBytes Tryd.prog 13 = some 24 := by kernel_rfl
@[go_sem] theorem tab94 : (Program.underlying Tryd.prog 13).isSome = true := by kernel_rfl
@[go_sem] theorem tab95 : tStr Tryd.prog 13 = false := by kernel_rfl
@[go_sem] theorem tab96 : tField Tryd.prog 13 0 = some (0, 9) := by kernel_rfl
@[go_sem] theorem tab97 : tField Tryd.prog 13 1 = some (1, 12) := by kernel_rfl
@[go_sem] theorem tab98 : tFields Tryd.prog 13 = true := by kernel_rfl
@[go_sem] theorem tab99 : tSize Tryd.prog 14 = some 2 := by kernel_rfl
@[go_sem] theorem tab100 : tAgg Tryd.prog 14 = some true := by kernel_rfl
@[go_sem] theorem tab101 : tZero Tryd.prog 14 = some [.t (.str ⟨#[]⟩), .t (.int .u64 0)] := by kernel_rfl
@[go_sem] theorem tab102 : tBytes Tryd.prog 14 = some 24 := by kernel_rfl
@[go_sem] theorem tab103 : (Program.underlying Tryd.prog 14).isSome = true := by kernel_rfl
@[go_sem] theorem tab104 : tStr Tryd.prog 14 = false := by kernel_rfl
@[go_sem] theorem tab105 : tField Tryd.prog 14 0 = some (0, 9) := by kernel_rfl
@[go_sem] theorem tab106 : tField Tryd.prog 14 1 = some (1, 12) := by kernel_rfl
@[go_sem] theorem tab107 : tFields Tryd.prog 14 = true := by kernel_rfl
@[go_sem] theorem tab108 : tSize Tryd.prog 20 = some 1 := by kernel_rfl
@[go_sem] theorem tab109 : tAgg Tryd.prog 20 = some false := by kernel_rfl
@[go_sem] theorem tab110 : tBytes Tryd.prog 20 = some 16 := by kernel_rfl
@[go_sem] theorem tab111 : (Program.underlying Tryd.prog 20).isSome = true := by kernel_rfl
@[go_sem] theorem tab112 : tStr Tryd.prog 20 = false := by kernel_rfl
@[go_sem] theorem tab113 : tIface Tryd.prog 20 = true := by kernel_rfl
@[go_sem] theorem tab114 : tSize Tryd.prog 21 = some 1 := by kernel_rfl
@[go_sem] theorem tab115 : tAgg Tryd.prog 21 = some false := by kernel_rfl
@[go_sem] theorem tab116 : tZero Tryd.prog 21 = some [.t (.int .i32 0)] := by kernel_rfl
@[go_sem] theorem tab117 : tBytes Tryd.prog 21 = some 4 := by kernel_rfl
@[go_sem] theorem tab118 : (Program.underlying Tryd.prog 21).isSome = true := by kernel_rfl
@[go_sem] theorem tab119 : tStr Tryd.prog 21 = false := by kernel_rfl
@[go_sem] theorem tab120 : tElem Tryd.prog 21 = none := by kernel_rfl
@[go_sem] theorem tab121 : tInt Tryd.prog 21 = some .i32 := by kernel_rfl
@[go_sem] theorem tab122 : tSize Tryd.prog 24 = some 1 := by kernel_rfl
@[go_sem] theorem tab123 : tAgg Tryd.prog 24 = some false := by kernel_rfl
@[go_sem] theorem tab124 : tZero Tryd.prog 24 = some [.nil0] := by kernel_rfl
@[go_sem] theorem tab125 : tBytes Tryd.prog 24 = some 24 := by kernel_rfl
@[go_sem] theorem tab126 : (Program.underlying Tryd.prog 24).isSome = true := by kernel_rfl
@[go_sem] theorem tab127 : tElem Tryd.prog 24 = some 9 := by kernel_rfl
@[go_sem] theorem tab128 : tStr Tryd.prog 24 = false := by kernel_rfl
@[go_sem] theorem tab129 : tSize Tryd.prog 29 = some 1 := by kernel_rfl
@[go_sem] theorem tab130 : tAgg Tryd.prog 29 = some false := by kernel_rfl
@[go_sem] theorem tab131 : tZero Tryd.prog 29 = some [.nil0] := by kernel_rfl
@[go_sem] theorem tab132 : tBytes Tryd.prog 29 = some 24 := by kernel_rfl
@[go_sem] theorem tab133 : (Program.underlying Tryd.prog 29).isSome = true := by kernel_rfl
@[go_sem] theorem tab134 : tElem Tryd.prog 29 = some 5 := by kernel_rfl
@[go_sem] theorem tab135 : tStr Tryd.prog 29 = false := by kernel_rfl
@[go_sem] theorem tab136 : tSize Tryd.prog 36 = some 1 := by kernel_rfl
@[go_sem] theorem tab137 : tAgg Tryd.prog 36 = some false := by kernel_rfl
@[go_sem] theorem tab138 : tZero Tryd.prog 36 = some [.t (.int .u64 0)] := by kernel_rfl
@[go_sem] theorem tab139 : tBytes Tryd.prog 36 = some 8 := by kernel_rfl
@[go_sem] theorem tab140 : (Program.underlying Tryd.prog 36).isSome = true := by kernel_rfl
@[go_sem] theorem tab141 : tStr Tryd.prog 36 = false := by kernel_rfl
@[go_sem] theorem tab142 : tElem Tryd.prog 36 = none := by kernel_rfl
@[go_sem] theorem tab143 : tInt Tryd.prog 36 = some .u64 := by kernel_rfl
@[go_sem] theorem tab144 : tSize Tryd.prog 48 = some 1 := by kernel_rfl
@[go_sem] theorem tab145 : tAgg Tryd.prog 48 = some false := by kernel_rfl
@[go_sem] theorem tab146 : tZero Tryd.prog 48 = some [.t (.int .u32 0)] := by kernel_rfl
@[go_sem] theorem tab147 : tBytes Tryd.prog 48 = some 4 := by kernel_rfl
@[go_sem] theorem tab148 : (Program.underlying Tryd.prog 48).isSome = true := by kernel_rfl
@[go_sem] theorem tab149 : tStr Tryd.prog 48 = false := by kernel_rfl
@[go_sem] theorem tab150 : tElem Tryd.prog 48 = none := by kernel_rfl
@[go_sem] theorem tab151 : tInt Tryd.prog 48 = some .u32 := by kernel_rfl
@[go_sem] theorem tab152 : tSize Tryd.prog 50 = some 1 := by kernel_rfl
@[go_sem] theorem tab153 : tAgg Tryd.prog 50 = some false := by kernel_rfl
@[go_sem] theorem tab154 : tZero Tryd.prog 50 = some [.t (.int .u64 0)] := by kernel_rfl
@[go_sem] theorem tab155 : tBytes Tryd.prog 50 = some 8 := by kernel_rfl
@[go_sem] theorem tab156 : (Program.underlying Tryd.prog 50).isSome = true := by kernel_rfl
@[go_sem] theorem tab157 : tStr Tryd.prog 50 = false := by kernel_rfl
@[go_sem] theorem tab158 : tElem Tryd.prog 50 = none := by kernel_rfl
@[go_sem] theorem tab159 : tInt Tryd.prog 50 = some .u64 := by kernel_rfl
@[go_sem] theorem tab160 : tSize Tryd.prog 54 = some 2 := by kernel_rfl
@[go_sem] theorem tab161 : tAgg Tryd.prog 54 = some true := by kernel_rfl
@[go_sem] theorem tab162 : tZero Tryd.prog 54 = some [.t (.int .u8 0), .t (.int .u8 0)] := by kernel_rfl
@[go_sem] theorem tab163 : tBytes Tryd.prog 54 = some 2 := by kernel_rfl
@[go_sem] theorem tab164 : (Program.underlying Tryd.prog 54).isSome = true := by kernel_rfl
@[go_sem] theorem tab165 : tStr Tryd.prog 54 = false := by kernel_rfl
@[go_sem] theorem tab166 : tField Tryd.prog 54 0 = some (0, 5) := by kernel_rfl
@[go_sem] theorem tab167 : tField Tryd.prog 54 1 = some (1, 5) := by kernel_rfl
@[go_sem] theorem tab168 : tFields Tryd.prog 54 = true := by kernel_rfl
@[go_sem] theorem tab169 : tSize Tryd.prog 55 = some 2 := by kernel_rfl
@[go_sem] theorem tab170 : tAgg Tryd.prog 55 = some true := by kernel_rfl
@[go_sem] theorem tab171 : tZero Tryd.prog 55 = some [.t (.int .u8 0), .t (.int .u8 0)] := by kernel_rfl
@[go_sem] theorem tab172 : tBytes Tryd.prog 55 = some 2 := by kernel_rfl
@[go_sem] theorem tab173 : (Program.underlying Tryd.prog 55).isSome = true := by kernel_rfl
@[go_sem] theorem tab174 : tStr Tryd.prog 55 = false := by kernel_rfl
@[go_sem] theorem tab175 : tField Tryd.prog 55 0 = some (0, 5) := by kernel_rfl
@[go_sem] theorem tab176 : tField Tryd.prog 55 1 = some (1, 5) := by kernel_rfl
@[go_sem] theorem tab177 : tFields Tryd.prog 55 = true := by kernel_rfl
@[go_sem] theorem tab178 : tSize Tryd.prog 68 = some 1 := by kernel_rfl
@[go_sem] theorem tab179 : tAgg Tryd.prog 68 = some false := by kernel_rfl
@[go_sem] theorem tab180 : tZero Tryd.prog 68 = some [.t (.int .u8 0)] := by kernel_rfl
@[go_sem] theorem tab181 : tBytes Tryd.prog 68 = some 1 := by kernel_rfl
@[go_sem] theorem tab182 : (Program.underlying Tryd.prog 68).isSome = true := by kernel_rfl
@[go_sem] theorem tab183 : tStr Tryd.prog 68 = false := by kernel_rfl
@[go_sem] theorem tab184 : tElem Tryd.prog 68 = none := by kernel_rfl
@[go_sem] theorem tab185 : tInt Tryd.prog 68 = some .u8 := by kernel_rfl
@[go_sem] theorem tab186 : tSize Tryd.prog 69 = some 1 := by kernel_rfl
@[go_sem] theorem tab187 : tAgg Tryd.prog 69 = some false := by kernel_rfl
@[go_sem] theorem tab188 : tZero Tryd.prog 69 = some [.t (.int .u8 0)] := by kernel_rfl
@[go_sem] theorem tab189 : tBytes Tryd.prog 69 = some 1 := by kernel_rfl
@[go_sem] theorem tab190 : (Program.underlying Tryd.prog 69).isSome = true := by kernel_rfl
@[go_sem] theorem tab191 : tStr Tryd.prog 69 = false := by kernel_rfl
@[go_sem] theorem tab192 : tElem Tryd.prog 69 = none := by kernel_rfl
@[go_sem] theorem tab193 : tInt Tryd.prog 69 = some .u8 := by kernel_rfl
@[go_sem] theorem tab194 : tSize Tryd.prog 72 = some 1 := by kernel_rfl
@[go_sem] theorem tab195 : tAgg Tryd.prog 72 = some false := by kernel_rfl
@[go_sem] theorem tab196 : tZero Tryd.prog 72 = some [.t (.int .i32 0)] := by kernel_rfl
@[go_sem] theorem tab197 : tBytes Tryd.prog 72 = some 4 := by kernel_rfl
@[go_sem] theorem tab198 : (Program.underlying Tryd.prog 72).isSome = true := by kernel_rfl
@[go_sem] theorem tab199 : tStr Tryd.prog 72 = false := by kernel_rfl
@[go_sem] theorem tab200 : tElem Tryd.prog 72 = none := by kernel_rfl
@[go_sem] theorem tab201 : tInt Tryd.prog 72 = some .i32 := by kernel_rfl
@[go_sem] theorem tab202 : tSize Tryd.prog 73 = some 1 := by kernel_rfl
@[go_sem] theorem tab203 : tAgg Tryd.prog 73 = some false := by kernel_rfl
@[go_sem] theorem tab204 : tZero Tryd.prog 73 = some [.t (.int .i32 0)] := by kernel_rfl
@[go_sem] theorem tab205 : tBytes Tryd.prog 73 = some 4 := by kernel_rfl
@[go_sem] theorem tab206 : (Program.underlying Tryd.prog 73).isSome = true := by kernel_rfl
@[go_sem] theorem tab207 : tStr Tryd.prog 73 = false := by kernel_rfl
@[go_sem] theorem tab208 : tElem Tryd.prog 73 = none := by kernel_rfl
@[go_sem] theorem tab209 : tInt Tryd.prog 73 = some .i32 := by kernel_rfl
end Go.Proofs.YtabbiihekappeaaDoor
