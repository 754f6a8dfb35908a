/- Written by mktab.py: the table of the functions. -/
import Derived.Test.YtladlgohahiaeaaK1
set_option linter.unusedSimpArgs false
set_option linter.unusedVariables false
namespace Go.Absm.D
open Go Go.Absm Go.Proofs
set_option maxRecDepth 1000000
def tree0 : Tree := (.node 68 (.node 35 (.node 17 (.node 10 (.node 7 (.node 5 (.leaf 3 c3) (.node 6 (.leaf 5 c5) (.leaf 6 c6))) (.node 8 (.leaf 7 c7) (.node 9 (.leaf 8 c8) (.leaf 9 c9)))) (.node 14 (.node 11 (.leaf 10 c10) (.node 13 (.leaf 11 c11) (.leaf 13 c13))) (.node 15 (.leaf 14 c14) (.node 16 (.leaf 15 c15) (.leaf 16 c16))))) (.node 29 (.node 26 (.node 18 (.leaf 17 c17) (.node 25 (.leaf 18 c18) (.leaf 25 c25))) (.node 27 (.leaf 26 c26) (.node 28 (.leaf 27 c27) (.leaf 28 c28)))) (.node 32 (.node 30 (.leaf 29 c29) (.node 31 (.leaf 30 c30) (.leaf 31 c31))) (.node 33 (.leaf 32 c32) (.node 34 (.leaf 33 c33) (.leaf 34 c34)))))) (.node 47 (.node 41 (.node 38 (.node 36 (.leaf 35 c35) (.node 37 (.leaf 36 c36) (.leaf 37 c37))) (.node 39 (.leaf 38 c38) (.node 40 (.leaf 39 c39) (.leaf 40 c40)))) (.node 44 (.node 42 (.leaf 41 c41) (.node 43 (.leaf 42 c42) (.leaf 43 c43))) (.node 45 (.leaf 44 c44) (.node 46 (.leaf 45 c45) (.leaf 46 c46))))) (.node 53 (.node 50 (.node 48 (.leaf 47 c47) (.node 49 (.leaf 48 c48) (.leaf 49 c49))) (.node 51 (.leaf 50 c50) (.node 52 (.leaf 51 c51) (.leaf 52 c52)))) (.node 56 (.node 54 (.leaf 53 c53) (.node 55 (.leaf 54 c54) (.leaf 55 c55))) (.node 66 (.leaf 56 c56) (.node 67 (.leaf 66 c66) (.leaf 67 c67))))))) (.node 107 (.node 95 (.node 74 (.node 71 (.node 69 (.leaf 68 c68) (.node 70 (.leaf 69 c69) (.leaf 70 c70))) (.node 72 (.leaf 71 c71) (.node 73 (.leaf 72 c72) (.leaf 73 c73)))) (.node 92 (.node 75 (.leaf 74 c74) (.node 91 (.leaf 75 c75) (.leaf 91 c91))) (.node 93 (.leaf 92 c92) (.node 94 (.leaf 93 c93) (.leaf 94 c94))))) (.node 101 (.node 98 (.node 96 (.leaf 95 c95) (.node 97 (.leaf 96 c96) (.leaf 97 c97))) (.node 99 (.leaf 98 c98) (.node 100 (.leaf 99 c99) (.leaf 100 c100)))) (.node 104 (.node 102 (.leaf 101 c101) (.node 103 (.leaf 102 c102) (.leaf 103 c103))) (.node 105 (.leaf 104 c104) (.node 106 (.leaf 105 c105) (.leaf 106 c106)))))) (.node 135 (.node 118 (.node 110 (.node 108 (.leaf 107 c107) (.node 109 (.leaf 108 c108) (.leaf 109 c109))) (.node 116 (.leaf 110 c110) (.node 117 (.leaf 116 c116) (.leaf 117 c117)))) (.node 132 (.node 130 (.leaf 118 c118) (.node 131 (.leaf 130 c130) (.leaf 131 c131))) (.node 133 (.leaf 132 c132) (.node 134 (.leaf 133 c133) (.leaf 134 c134))))) (.node 154 (.node 140 (.node 137 (.leaf 135 c135) (.node 138 (.leaf 137 c137) (.leaf 138 c138))) (.node 145 (.leaf 140 c140) (.node 153 (.leaf 145 c145) (.leaf 153 c153)))) (.node 173 (.node 156 (.leaf 154 c154) (.node 157 (.leaf 156 c156) (.leaf 157 c157))) (.node 178 (.leaf 173 c173) (.node 179 (.leaf 178 c178) (.leaf 179 c179))))))))
theorem tree0_ok : tree0.Ok Try.prog := ⟨⟨⟨⟨⟨⟨e3, ⟨e5, e6⟩⟩, ⟨e7, ⟨e8, e9⟩⟩⟩, ⟨⟨e10, ⟨e11, e13⟩⟩, ⟨e14, ⟨e15, e16⟩⟩⟩⟩, ⟨⟨⟨e17, ⟨e18, e25⟩⟩, ⟨e26, ⟨e27, e28⟩⟩⟩, ⟨⟨e29, ⟨e30, e31⟩⟩, ⟨e32, ⟨e33, e34⟩⟩⟩⟩⟩, ⟨⟨⟨⟨e35, ⟨e36, e37⟩⟩, ⟨e38, ⟨e39, e40⟩⟩⟩, ⟨⟨e41, ⟨e42, e43⟩⟩, ⟨e44, ⟨e45, e46⟩⟩⟩⟩, ⟨⟨⟨e47, ⟨e48, e49⟩⟩, ⟨e50, ⟨e51, e52⟩⟩⟩, ⟨⟨e53, ⟨e54, e55⟩⟩, ⟨e56, ⟨e66, e67⟩⟩⟩⟩⟩⟩, ⟨⟨⟨⟨⟨e68, ⟨e69, e70⟩⟩, ⟨e71, ⟨e72, e73⟩⟩⟩, ⟨⟨e74, ⟨e75, e91⟩⟩, ⟨e92, ⟨e93, e94⟩⟩⟩⟩, ⟨⟨⟨e95, ⟨e96, e97⟩⟩, ⟨e98, ⟨e99, e100⟩⟩⟩, ⟨⟨e101, ⟨e102, e103⟩⟩, ⟨e104, ⟨e105, e106⟩⟩⟩⟩⟩, ⟨⟨⟨⟨e107, ⟨e108, e109⟩⟩, ⟨e110, ⟨e116, e117⟩⟩⟩, ⟨⟨e118, ⟨e130, e131⟩⟩, ⟨e132, ⟨e133, e134⟩⟩⟩⟩, ⟨⟨⟨e135, ⟨e137, e138⟩⟩, ⟨e140, ⟨e145, e153⟩⟩⟩, ⟨⟨e154, ⟨e156, e157⟩⟩, ⟨e173, ⟨e178, e179⟩⟩⟩⟩⟩⟩⟩
def tb0 : Nat → Option Entry := fun n => tree0.look n
theorem tb0_ok : TableOk Try.prog tb0 := Tree.ok tree0_ok
theorem mixed : Try.prog.follows .mixedOrders = true := by kernel_rfl
/-- a table that holds the functions' code -/
structure Tab (t : Nat → Option Entry) : Prop where
  h3 : t 3 = some (.code c3)
  h5 : t 5 = some (.code c5)
  h6 : t 6 = some (.code c6)
  h7 : t 7 = some (.code c7)
  h8 : t 8 = some (.code c8)
  h9 : t 9 = some (.code c9)
  h10 : t 10 = some (.code c10)
  h11 : t 11 = some (.code c11)
  h13 : t 13 = some (.code c13)
  h14 : t 14 = some (.code c14)
  h15 : t 15 = some (.code c15)
  h16 : t 16 = some (.code c16)
  h17 : t 17 = some (.code c17)
  h25 : t 25 = some (.code c25)
  h26 : t 26 = some (.code c26)
  h27 : t 27 = some (.code c27)
  h28 : t 28 = some (.code c28)
  h29 : t 29 = some (.code c29)
  h30 : t 30 = some (.code c30)
  h31 : t 31 = some (.code c31)
  h32 : t 32 = some (.code c32)
  h35 : t 35 = some (.code c35)
  h36 : t 36 = some (.code c36)
  h37 : t 37 = some (.code c37)
  h38 : t 38 = some (.code c38)
  h39 : t 39 = some (.code c39)
  h40 : t 40 = some (.code c40)
  h41 : t 41 = some (.code c41)
  h42 : t 42 = some (.code c42)
  h43 : t 43 = some (.code c43)
  h44 : t 44 = some (.code c44)
  h45 : t 45 = some (.code c45)
  h46 : t 46 = some (.code c46)
  h47 : t 47 = some (.code c47)
  h48 : t 48 = some (.code c48)
  h49 : t 49 = some (.code c49)
  h51 : t 51 = some (.code c51)
  h52 : t 52 = some (.code c52)
  h55 : t 55 = some (.code c55)
  h56 : t 56 = some (.code c56)
  h66 : t 66 = some (.code c66)
  h67 : t 67 = some (.code c67)
  h68 : t 68 = some (.code c68)
  h69 : t 69 = some (.code c69)
  h70 : t 70 = some (.code c70)
  h71 : t 71 = some (.code c71)
  h72 : t 72 = some (.code c72)
  h73 : t 73 = some (.code c73)
  h74 : t 74 = some (.code c74)
  h91 : t 91 = some (.code c91)
  h92 : t 92 = some (.code c92)
  h93 : t 93 = some (.code c93)
  h94 : t 94 = some (.code c94)
  h95 : t 95 = some (.code c95)
  h96 : t 96 = some (.code c96)
  h97 : t 97 = some (.code c97)
  h98 : t 98 = some (.code c98)
  h99 : t 99 = some (.code c99)
  h100 : t 100 = some (.code c100)
  h101 : t 101 = some (.code c101)
  h102 : t 102 = some (.code c102)
  h103 : t 103 = some (.code c103)
  h105 : t 105 = some (.code c105)
  h106 : t 106 = some (.code c106)
  h107 : t 107 = some (.code c107)
  h108 : t 108 = some (.code c108)
  h109 : t 109 = some (.code c109)
  h110 : t 110 = some (.code c110)
  h116 : t 116 = some (.code c116)
  h117 : t 117 = some (.code c117)
  h118 : t 118 = some (.code c118)
  h130 : t 130 = some (.code c130)
  h131 : t 131 = some (.code c131)
  h132 : t 132 = some (.code c132)
  h134 : t 134 = some (.code c134)
  h135 : t 135 = some (.code c135)
  h137 : t 137 = some (.code c137)
  h138 : t 138 = some (.code c138)
  h140 : t 140 = some (.code c140)
  h145 : t 145 = some (.code c145)
  h153 : t 153 = some (.code c153)
  h154 : t 154 = some (.code c154)
  h156 : t 156 = some (.code c156)
  h157 : t 157 = some (.code c157)
  h173 : t 173 = some (.code c173)
  h178 : t 178 = some (.code c178)
  h179 : t 179 = some (.code c179)
theorem tb0_tab : Tab tb0 := ⟨rfl, rfl, rfl, rfl, rfl, rfl, rfl, rfl, rfl, rfl, rfl, rfl, rfl, rfl, rfl, rfl, rfl, rfl, rfl, rfl, rfl, rfl, rfl, rfl, rfl, rfl, rfl, rfl, rfl, rfl, rfl, rfl, rfl, rfl, rfl, rfl, rfl, rfl, rfl, rfl, rfl, rfl, rfl, rfl, rfl, rfl, rfl, rfl, rfl, rfl, rfl, rfl, rfl, rfl, rfl, rfl, rfl, rfl, rfl, rfl, rfl, rfl, rfl, rfl, rfl, rfl, rfl, rfl, rfl, rfl, rfl, rfl, rfl, rfl, rfl, rfl, rfl, rfl, rfl, rfl, rfl, rfl, rfl, rfl, rfl, rfl, rfl⟩
theorem tab_hooked {t : Nat → Option Entry} (h : Tab t) (g : Hook) : Tab (hooked 136 g t) := ⟨h.h3, h.h5, h.h6, h.h7, h.h8, h.h9, h.h10, h.h11, h.h13, h.h14, h.h15, h.h16, h.h17, h.h25, h.h26, h.h27, h.h28, h.h29, h.h30, h.h31, h.h32, h.h35, h.h36, h.h37, h.h38, h.h39, h.h40, h.h41, h.h42, h.h43, h.h44, h.h45, h.h46, h.h47, h.h48, h.h49, h.h51, h.h52, h.h55, h.h56, h.h66, h.h67, h.h68, h.h69, h.h70, h.h71, h.h72, h.h73, h.h74, h.h91, h.h92, h.h93, h.h94, h.h95, h.h96, h.h97, h.h98, h.h99, h.h100, h.h101, h.h102, h.h103, h.h105, h.h106, h.h107, h.h108, h.h109, h.h110, h.h116, h.h117, h.h118, h.h130, h.h131, h.h132, h.h134, h.h135, h.h137, h.h138, h.h140, h.h145, h.h153, h.h154, h.h156, h.h157, h.h173, h.h178, h.h179⟩
theorem tb0_18 : tb0 18 = some (.code c18) := rfl
theorem tb0_33 : tb0 33 = some (.code c33) := rfl
theorem tb0_34 : tb0 34 = some (.code c34) := rfl
theorem tb0_50 : tb0 50 = some (.code c50) := rfl
theorem tb0_53 : tb0 53 = some (.code c53) := rfl
theorem tb0_54 : tb0 54 = some (.code c54) := rfl
theorem tb0_75 : tb0 75 = some (.code c75) := rfl
theorem tb0_104 : tb0 104 = some (.code c104) := rfl
theorem tb0_133 : tb0 133 = some (.code c133) := rfl
theorem tab_h18 {t : Nat → Option Entry} (h : Tab t) (g : Hook) : Tab (hooked 18 g t) := ⟨h.h3, h.h5, h.h6, h.h7, h.h8, h.h9, h.h10, h.h11, h.h13, h.h14, h.h15, h.h16, h.h17, h.h25, h.h26, h.h27, h.h28, h.h29, h.h30, h.h31, h.h32, h.h35, h.h36, h.h37, h.h38, h.h39, h.h40, h.h41, h.h42, h.h43, h.h44, h.h45, h.h46, h.h47, h.h48, h.h49, h.h51, h.h52, h.h55, h.h56, h.h66, h.h67, h.h68, h.h69, h.h70, h.h71, h.h72, h.h73, h.h74, h.h91, h.h92, h.h93, h.h94, h.h95, h.h96, h.h97, h.h98, h.h99, h.h100, h.h101, h.h102, h.h103, h.h105, h.h106, h.h107, h.h108, h.h109, h.h110, h.h116, h.h117, h.h118, h.h130, h.h131, h.h132, h.h134, h.h135, h.h137, h.h138, h.h140, h.h145, h.h153, h.h154, h.h156, h.h157, h.h173, h.h178, h.h179⟩
theorem tab_f18 {t : Nat → Option Entry} (h : Tab t) (g : FHook) : Tab (freshed 18 g t) := ⟨h.h3, h.h5, h.h6, h.h7, h.h8, h.h9, h.h10, h.h11, h.h13, h.h14, h.h15, h.h16, h.h17, h.h25, h.h26, h.h27, h.h28, h.h29, h.h30, h.h31, h.h32, h.h35, h.h36, h.h37, h.h38, h.h39, h.h40, h.h41, h.h42, h.h43, h.h44, h.h45, h.h46, h.h47, h.h48, h.h49, h.h51, h.h52, h.h55, h.h56, h.h66, h.h67, h.h68, h.h69, h.h70, h.h71, h.h72, h.h73, h.h74, h.h91, h.h92, h.h93, h.h94, h.h95, h.h96, h.h97, h.h98, h.h99, h.h100, h.h101, h.h102, h.h103, h.h105, h.h106, h.h107, h.h108, h.h109, h.h110, h.h116, h.h117, h.h118, h.h130, h.h131, h.h132, h.h134, h.h135, h.h137, h.h138, h.h140, h.h145, h.h153, h.h154, h.h156, h.h157, h.h173, h.h178, h.h179⟩
theorem tab_h33 {t : Nat → Option Entry} (h : Tab t) (g : Hook) : Tab (hooked 33 g t) := ⟨h.h3, h.h5, h.h6, h.h7, h.h8, h.h9, h.h10, h.h11, h.h13, h.h14, h.h15, h.h16, h.h17, h.h25, h.h26, h.h27, h.h28, h.h29, h.h30, h.h31, h.h32, h.h35, h.h36, h.h37, h.h38, h.h39, h.h40, h.h41, h.h42, h.h43, h.h44, h.h45, h.h46, h.h47, h.h48, h.h49, h.h51, h.h52, h.h55, h.h56, h.h66, h.h67, h.h68, h.h69, h.h70, h.h71, h.h72, h.h73, h.h74, h.h91, h.h92, h.h93, h.h94, h.h95, h.h96, h.h97, h.h98, h.h99, h.h100, h.h101, h.h102, h.h103, h.h105, h.h106, h.h107, h.h108, h.h109, h.h110, h.h116, h.h117, h.h118, h.h130, h.h131, h.h132, h.h134, h.h135, h.h137, h.h138, h.h140, h.h145, h.h153, h.h154, h.h156, h.h157, h.h173, h.h178, h.h179⟩
theorem tab_f33 {t : Nat → Option Entry} (h : Tab t) (g : FHook) : Tab (freshed 33 g t) := ⟨h.h3, h.h5, h.h6, h.h7, h.h8, h.h9, h.h10, h.h11, h.h13, h.h14, h.h15, h.h16, h.h17, h.h25, h.h26, h.h27, h.h28, h.h29, h.h30, h.h31, h.h32, h.h35, h.h36, h.h37, h.h38, h.h39, h.h40, h.h41, h.h42, h.h43, h.h44, h.h45, h.h46, h.h47, h.h48, h.h49, h.h51, h.h52, h.h55, h.h56, h.h66, h.h67, h.h68, h.h69, h.h70, h.h71, h.h72, h.h73, h.h74, h.h91, h.h92, h.h93, h.h94, h.h95, h.h96, h.h97, h.h98, h.h99, h.h100, h.h101, h.h102, h.h103, h.h105, h.h106, h.h107, h.h108, h.h109, h.h110, h.h116, h.h117, h.h118, h.h130, h.h131, h.h132, h.h134, h.h135, h.h137, h.h138, h.h140, h.h145, h.h153, h.h154, h.h156, h.h157, h.h173, h.h178, h.h179⟩
theorem tab_h34 {t : Nat → Option Entry} (h : Tab t) (g : Hook) : Tab (hooked 34 g t) := ⟨h.h3, h.h5, h.h6, h.h7, h.h8, h.h9, h.h10, h.h11, h.h13, h.h14, h.h15, h.h16, h.h17, h.h25, h.h26, h.h27, h.h28, h.h29, h.h30, h.h31, h.h32, h.h35, h.h36, h.h37, h.h38, h.h39, h.h40, h.h41, h.h42, h.h43, h.h44, h.h45, h.h46, h.h47, h.h48, h.h49, h.h51, h.h52, h.h55, h.h56, h.h66, h.h67, h.h68, h.h69, h.h70, h.h71, h.h72, h.h73, h.h74, h.h91, h.h92, h.h93, h.h94, h.h95, h.h96, h.h97, h.h98, h.h99, h.h100, h.h101, h.h102, h.h103, h.h105, h.h106, h.h107, h.h108, h.h109, h.h110, h.h116, h.h117, h.h118, h.h130, h.h131, h.h132, h.h134, h.h135, h.h137, h.h138, h.h140, h.h145, h.h153, h.h154, h.h156, h.h157, h.h173, h.h178, h.h179⟩
theorem tab_f34 {t : Nat → Option Entry} (h : Tab t) (g : FHook) : Tab (freshed 34 g t) := ⟨h.h3, h.h5, h.h6, h.h7, h.h8, h.h9, h.h10, h.h11, h.h13, h.h14, h.h15, h.h16, h.h17, h.h25, h.h26, h.h27, h.h28, h.h29, h.h30, h.h31, h.h32, h.h35, h.h36, h.h37, h.h38, h.h39, h.h40, h.h41, h.h42, h.h43, h.h44, h.h45, h.h46, h.h47, h.h48, h.h49, h.h51, h.h52, h.h55, h.h56, h.h66, h.h67, h.h68, h.h69, h.h70, h.h71, h.h72, h.h73, h.h74, h.h91, h.h92, h.h93, h.h94, h.h95, h.h96, h.h97, h.h98, h.h99, h.h100, h.h101, h.h102, h.h103, h.h105, h.h106, h.h107, h.h108, h.h109, h.h110, h.h116, h.h117, h.h118, h.h130, h.h131, h.h132, h.h134, h.h135, h.h137, h.h138, h.h140, h.h145, h.h153, h.h154, h.h156, h.h157, h.h173, h.h178, h.h179⟩
theorem tab_h50 {t : Nat → Option Entry} (h : Tab t) (g : Hook) : Tab (hooked 50 g t) := ⟨h.h3, h.h5, h.h6, h.h7, h.h8, h.h9, h.h10, h.h11, h.h13, h.h14, h.h15, h.h16, h.h17, h.h25, h.h26, h.h27, h.h28, h.h29, h.h30, h.h31, h.h32, h.h35, h.h36, h.h37, h.h38, h.h39, h.h40, h.h41, h.h42, h.h43, h.h44, h.h45, h.h46, h.h47, h.h48, h.h49, h.h51, h.h52, h.h55, h.h56, h.h66, h.h67, h.h68, h.h69, h.h70, h.h71, h.h72, h.h73, h.h74, h.h91, h.h92, h.h93, h.h94, h.h95, h.h96, h.h97, h.h98, h.h99, h.h100, h.h101, h.h102, h.h103, h.h105, h.h106, h.h107, h.h108, h.h109, h.h110, h.h116, h.h117, h.h118, h.h130, h.h131, h.h132, h.h134, h.h135, h.h137, h.h138, h.h140, h.h145, h.h153, h.h154, h.h156, h.h157, h.h173, h.h178, h.h179⟩
theorem tab_f50 {t : Nat → Option Entry} (h : Tab t) (g : FHook) : Tab (freshed 50 g t) := ⟨h.h3, h.h5, h.h6, h.h7, h.h8, h.h9, h.h10, h.h11, h.h13, h.h14, h.h15, h.h16, h.h17, h.h25, h.h26, h.h27, h.h28, h.h29, h.h30, h.h31, h.h32, h.h35, h.h36, h.h37, h.h38, h.h39, h.h40, h.h41, h.h42, h.h43, h.h44, h.h45, h.h46, h.h47, h.h48, h.h49, h.h51, h.h52, h.h55, h.h56, h.h66, h.h67, h.h68, h.h69, h.h70, h.h71, h.h72, h.h73, h.h74, h.h91, h.h92, h.h93, h.h94, h.h95, h.h96, h.h97, h.h98, h.h99, h.h100, h.h101, h.h102, h.h103, h.h105, h.h106, h.h107, h.h108, h.h109, h.h110, h.h116, h.h117, h.h118, h.h130, h.h131, h.h132, h.h134, h.h135, h.h137, h.h138, h.h140, h.h145, h.h153, h.h154, h.h156, h.h157, h.h173, h.h178, h.h179⟩
theorem tab_h53 {t : Nat → Option Entry} (h : Tab t) (g : Hook) : Tab (hooked 53 g t) := ⟨h.h3, h.h5, h.h6, h.h7, h.h8, h.h9, h.h10, h.h11, h.h13, h.h14, h.h15, h.h16, h.h17, h.h25, h.h26, h.h27, h.h28, h.h29, h.h30, h.h31, h.h32, h.h35, h.h36, h.h37, h.h38, h.h39, h.h40, h.h41, h.h42, h.h43, h.h44, h.h45, h.h46, h.h47, h.h48, h.h49, h.h51, h.h52, h.h55, h.h56, h.h66, h.h67, h.h68, h.h69, h.h70, h.h71, h.h72, h.h73, h.h74, h.h91, h.h92, h.h93, h.h94, h.h95, h.h96, h.h97, h.h98, h.h99, h.h100, h.h101, h.h102, h.h103, h.h105, h.h106, h.h107, h.h108, h.h109, h.h110, h.h116, h.h117, h.h118, h.h130, h.h131, h.h132, h.h134, h.h135, h.h137, h.h138, h.h140, h.h145, h.h153, h.h154, h.h156, h.h157, h.h173, h.h178, h.h179⟩
theorem tab_f53 {t : Nat → Option Entry} (h : Tab t) (g : FHook) : Tab (freshed 53 g t) := ⟨h.h3, h.h5, h.h6, h.h7, h.h8, h.h9, h.h10, h.h11, h.h13, h.h14, h.h15, h.h16, h.h17, h.h25, h.h26, h.h27, h.h28, h.h29, h.h30, h.h31, h.h32, h.h35, h.h36, h.h37, h.h38, h.h39, h.h40, h.h41, h.h42, h.h43, h.h44, h.h45, h.h46, h.h47, h.h48, h.h49, h.h51, h.h52, h.h55, h.h56, h.h66, h.h67, h.h68, h.h69, h.h70, h.h71, h.h72, h.h73, h.h74, h.h91, h.h92, h.h93, h.h94, h.h95, h.h96, h.h97, h.h98, h.h99, h.h100, h.h101, h.h102, h.h103, h.h105, h.h106, h.h107, h.h108, h.h109, h.h110, h.h116, h.h117, h.h118, h.h130, h.h131, h.h132, h.h134, h.h135, h.h137, h.h138, h.h140, h.h145, h.h153, h.h154, h.h156, h.h157, h.h173, h.h178, h.h179⟩
theorem tab_h54 {t : Nat → Option Entry} (h : Tab t) (g : Hook) : Tab (hooked 54 g t) := ⟨h.h3, h.h5, h.h6, h.h7, h.h8, h.h9, h.h10, h.h11, h.h13, h.h14, h.h15, h.h16, h.h17, h.h25, h.h26, h.h27, h.h28, h.h29, h.h30, h.h31, h.h32, h.h35, h.h36, h.h37, h.h38, h.h39, h.h40, h.h41, h.h42, h.h43, h.h44, h.h45, h.h46, h.h47, h.h48, h.h49, h.h51, h.h52, h.h55, h.h56, h.h66, h.h67, h.h68, h.h69, h.h70, h.h71, h.h72, h.h73, h.h74, h.h91, h.h92, h.h93, h.h94, h.h95, h.h96, h.h97, h.h98, h.h99, h.h100, h.h101, h.h102, h.h103, h.h105, h.h106, h.h107, h.h108, h.h109, h.h110, h.h116, h.h117, h.h118, h.h130, h.h131, h.h132, h.h134, h.h135, h.h137, h.h138, h.h140, h.h145, h.h153, h.h154, h.h156, h.h157, h.h173, h.h178, h.h179⟩
theorem tab_f54 {t : Nat → Option Entry} (h : Tab t) (g : FHook) : Tab (freshed 54 g t) := ⟨h.h3, h.h5, h.h6, h.h7, h.h8, h.h9, h.h10, h.h11, h.h13, h.h14, h.h15, h.h16, h.h17, h.h25, h.h26, h.h27, h.h28, h.h29, h.h30, h.h31, h.h32, h.h35, h.h36, h.h37, h.h38, h.h39, h.h40, h.h41, h.h42, h.h43, h.h44, h.h45, h.h46, h.h47, h.h48, h.h49, h.h51, h.h52, h.h55, h.h56, h.h66, h.h67, h.h68, h.h69, h.h70, h.h71, h.h72, h.h73, h.h74, h.h91, h.h92, h.h93, h.h94, h.h95, h.h96, h.h97, h.h98, h.h99, h.h100, h.h101, h.h102, h.h103, h.h105, h.h106, h.h107, h.h108, h.h109, h.h110, h.h116, h.h117, h.h118, h.h130, h.h131, h.h132, h.h134, h.h135, h.h137, h.h138, h.h140, h.h145, h.h153, h.h154, h.h156, h.h157, h.h173, h.h178, h.h179⟩
theorem tab_h75 {t : Nat → Option Entry} (h : Tab t) (g : Hook) : Tab (hooked 75 g t) := ⟨h.h3, h.h5, h.h6, h.h7, h.h8, h.h9, h.h10, h.h11, h.h13, h.h14, h.h15, h.h16, h.h17, h.h25, h.h26, h.h27, h.h28, h.h29, h.h30, h.h31, h.h32, h.h35, h.h36, h.h37, h.h38, h.h39, h.h40, h.h41, h.h42, h.h43, h.h44, h.h45, h.h46, h.h47, h.h48, h.h49, h.h51, h.h52, h.h55, h.h56, h.h66, h.h67, h.h68, h.h69, h.h70, h.h71, h.h72, h.h73, h.h74, h.h91, h.h92, h.h93, h.h94, h.h95, h.h96, h.h97, h.h98, h.h99, h.h100, h.h101, h.h102, h.h103, h.h105, h.h106, h.h107, h.h108, h.h109, h.h110, h.h116, h.h117, h.h118, h.h130, h.h131, h.h132, h.h134, h.h135, h.h137, h.h138, h.h140, h.h145, h.h153, h.h154, h.h156, h.h157, h.h173, h.h178, h.h179⟩
theorem tab_f75 {t : Nat → Option Entry} (h : Tab t) (g : FHook) : Tab (freshed 75 g t) := ⟨h.h3, h.h5, h.h6, h.h7, h.h8, h.h9, h.h10, h.h11, h.h13, h.h14, h.h15, h.h16, h.h17, h.h25, h.h26, h.h27, h.h28, h.h29, h.h30, h.h31, h.h32, h.h35, h.h36, h.h37, h.h38, h.h39, h.h40, h.h41, h.h42, h.h43, h.h44, h.h45, h.h46, h.h47, h.h48, h.h49, h.h51, h.h52, h.h55, h.h56, h.h66, h.h67, h.h68, h.h69, h.h70, h.h71, h.h72, h.h73, h.h74, h.h91, h.h92, h.h93, h.h94, h.h95, h.h96, h.h97, h.h98, h.h99, h.h100, h.h101, h.h102, h.h103, h.h105, h.h106, h.h107, h.h108, h.h109, h.h110, h.h116, h.h117, h.h118, h.h130, h.h131, h.h132, h.h134, h.h135, h.h137, h.h138, h.h140, h.h145, h.h153, h.h154, h.h156, h.h157, h.h173, h.h178, h.h179⟩
theorem tab_h104 {t : Nat → Option Entry} (h : Tab t) (g : Hook) : Tab (hooked 104 g t) := ⟨h.h3, h.h5, h.h6, h.h7, h.h8, h.h9, h.h10, h.h11, h.h13, h.h14, h.h15, h.h16, h.h17, h.h25, h.h26, h.h27, h.h28, h.h29, h.h30, h.h31, h.h32, h.h35, h.h36, h.h37, h.h38, h.h39, h.h40, h.h41, h.h42, h.h43, h.h44, h.h45, h.h46, h.h47, h.h48, h.h49, h.h51, h.h52, h.h55, h.h56, h.h66, h.h67, h.h68, h.h69, h.h70, h.h71, h.h72, h.h73, h.h74, h.h91, h.h92, h.h93, h.h94, h.h95, h.h96, h.h97, h.h98, h.h99, h.h100, h.h101, h.h102, h.h103, h.h105, h.h106, h.h107, h.h108, h.h109, h.h110, h.h116, h.h117, h.h118, h.h130, h.h131, h.h132, h.h134, h.h135, h.h137, h.h138, h.h140, h.h145, h.h153, h.h154, h.h156, h.h157, h.h173, h.h178, h.h179⟩
theorem tab_f104 {t : Nat → Option Entry} (h : Tab t) (g : FHook) : Tab (freshed 104 g t) := ⟨h.h3, h.h5, h.h6, h.h7, h.h8, h.h9, h.h10, h.h11, h.h13, h.h14, h.h15, h.h16, h.h17, h.h25, h.h26, h.h27, h.h28, h.h29, h.h30, h.h31, h.h32, h.h35, h.h36, h.h37, h.h38, h.h39, h.h40, h.h41, h.h42, h.h43, h.h44, h.h45, h.h46, h.h47, h.h48, h.h49, h.h51, h.h52, h.h55, h.h56, h.h66, h.h67, h.h68, h.h69, h.h70, h.h71, h.h72, h.h73, h.h74, h.h91, h.h92, h.h93, h.h94, h.h95, h.h96, h.h97, h.h98, h.h99, h.h100, h.h101, h.h102, h.h103, h.h105, h.h106, h.h107, h.h108, h.h109, h.h110, h.h116, h.h117, h.h118, h.h130, h.h131, h.h132, h.h134, h.h135, h.h137, h.h138, h.h140, h.h145, h.h153, h.h154, h.h156, h.h157, h.h173, h.h178, h.h179⟩
theorem tab_h133 {t : Nat → Option Entry} (h : Tab t) (g : Hook) : Tab (hooked 133 g t) := ⟨h.h3, h.h5, h.h6, h.h7, h.h8, h.h9, h.h10, h.h11, h.h13, h.h14, h.h15, h.h16, h.h17, h.h25, h.h26, h.h27, h.h28, h.h29, h.h30, h.h31, h.h32, h.h35, h.h36, h.h37, h.h38, h.h39, h.h40, h.h41, h.h42, h.h43, h.h44, h.h45, h.h46, h.h47, h.h48, h.h49, h.h51, h.h52, h.h55, h.h56, h.h66, h.h67, h.h68, h.h69, h.h70, h.h71, h.h72, h.h73, h.h74, h.h91, h.h92, h.h93, h.h94, h.h95, h.h96, h.h97, h.h98, h.h99, h.h100, h.h101, h.h102, h.h103, h.h105, h.h106, h.h107, h.h108, h.h109, h.h110, h.h116, h.h117, h.h118, h.h130, h.h131, h.h132, h.h134, h.h135, h.h137, h.h138, h.h140, h.h145, h.h153, h.h154, h.h156, h.h157, h.h173, h.h178, h.h179⟩
theorem tab_f133 {t : Nat → Option Entry} (h : Tab t) (g : FHook) : Tab (freshed 133 g t) := ⟨h.h3, h.h5, h.h6, h.h7, h.h8, h.h9, h.h10, h.h11, h.h13, h.h14, h.h15, h.h16, h.h17, h.h25, h.h26, h.h27, h.h28, h.h29, h.h30, h.h31, h.h32, h.h35, h.h36, h.h37, h.h38, h.h39, h.h40, h.h41, h.h42, h.h43, h.h44, h.h45, h.h46, h.h47, h.h48, h.h49, h.h51, h.h52, h.h55, h.h56, h.h66, h.h67, h.h68, h.h69, h.h70, h.h71, h.h72, h.h73, h.h74, h.h91, h.h92, h.h93, h.h94, h.h95, h.h96, h.h97, h.h98, h.h99, h.h100, h.h101, h.h102, h.h103, h.h105, h.h106, h.h107, h.h108, h.h109, h.h110, h.h116, h.h117, h.h118, h.h130, h.h131, h.h132, h.h134, h.h135, h.h137, h.h138, h.h140, h.h145, h.h153, h.h154, h.h156, h.h157, h.h173, h.h178, h.h179⟩
end Go.Absm.D
