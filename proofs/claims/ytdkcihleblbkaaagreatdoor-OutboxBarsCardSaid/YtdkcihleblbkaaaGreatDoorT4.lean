/- A verified symbolic executor, part T4: the functions made ready are what making ready makes of this program's functions. -/
import Derived.Test.YtdkcihleblbkaaaGreatDoorT3
namespace Go.Proofs.YtdkcihleblbkaaaGreatDoor.Eng
set_option linter.unusedVariables false
set_option linter.unusedSimpArgs false
set_option linter.unusedSectionVars false
open Go Go.Proofs
set_option maxRecDepth 1000000

theorem c3_eq : cmp Tryz.f3 = some cf3 := by kernel_rfl
theorem c4_eq : cmp Tryz.f4 = some cf4 := by kernel_rfl
theorem c5_eq : cmp Tryz.f5 = some cf5 := by kernel_rfl
theorem c6_eq : cmp Tryz.f6 = some cf6 := by kernel_rfl
theorem c7_eq : cmp Tryz.f7 = some cf7 := by kernel_rfl
theorem c8_eq : cmp Tryz.f8 = some cf8 := by kernel_rfl
theorem c9_eq : cmp Tryz.f9 = some cf9 := by kernel_rfl
theorem c10_eq : cmp Tryz.f10 = some cf10 := by kernel_rfl
theorem c11_eq : cmp Tryz.f11 = some cf11 := by kernel_rfl
theorem c12_eq : cmp Tryz.f12 = some cf12 := by kernel_rfl
theorem c13_eq : cmp Tryz.f13 = some cf13 := by kernel_rfl
theorem c14_eq : cmp Tryz.f14 = some cf14 := by kernel_rfl
theorem c15_eq : cmp Tryz.f15 = some cf15 := by kernel_rfl
theorem c16_eq : cmp Tryz.f16 = some cf16 := by kernel_rfl
theorem c17_eq : cmp Tryz.f17 = some cf17 := by kernel_rfl
theorem c18_eq : cmp Tryz.f18 = some cf18 := by kernel_rfl
theorem c19_eq : cmp Tryz.f19 = some cf19 := by kernel_rfl
theorem c20_eq : cmp Tryz.f20 = some cf20 := by kernel_rfl
theorem c21_eq : cmp Tryz.f21 = some cf21 := by kernel_rfl
theorem c22_eq : cmp Tryz.f22 = some cf22 := by kernel_rfl
theorem c23_eq : cmp Tryz.f23 = some cf23 := by kernel_rfl
theorem c24_eq : cmp Tryz.f24 = some cf24 := by kernel_rfl
theorem c25_eq : cmp Tryz.f25 = some cf25 := by kernel_rfl
theorem c26_eq : cmp Tryz.f26 = some cf26 := by kernel_rfl
theorem c27_eq : cmp Tryz.f27 = some cf27 := by kernel_rfl
theorem c28_eq : cmp Tryz.f28 = some cf28 := by kernel_rfl
theorem c29_eq : cmp Tryz.f29 = some cf29 := by kernel_rfl
theorem c30_eq : cmp Tryz.f30 = some cf30 := by kernel_rfl
theorem c31_eq : cmp Tryz.f31 = some cf31 := by kernel_rfl
theorem c32_eq : cmp Tryz.f32 = some cf32 := by kernel_rfl
theorem c33_eq : cmp Tryz.f33 = some cf33 := by kernel_rfl
theorem c34_eq : cmp Tryz.f34 = some cf34 := by kernel_rfl
theorem c37_eq : cmp Tryz.f37 = some cf37 := by kernel_rfl
theorem c38_eq : cmp Tryz.f38 = some cf38 := by kernel_rfl
theorem c39_eq : cmp Tryz.f39 = some cf39 := by kernel_rfl
theorem c40_eq : cmp Tryz.f40 = some cf40 := by kernel_rfl
theorem c41_eq : cmp Tryz.f41 = some cf41 := by kernel_rfl
theorem c43_eq : cmp Tryz.f43 = some cf43 := by kernel_rfl
theorem c44_eq : cmp Tryz.f44 = some cf44 := by kernel_rfl
theorem c45_eq : cmp Tryz.f45 = some cf45 := by kernel_rfl
theorem c46_eq : cmp Tryz.f46 = some cf46 := by kernel_rfl
theorem c47_eq : cmp Tryz.f47 = some cf47 := by kernel_rfl
theorem c48_eq : cmp Tryz.f48 = some cf48 := by kernel_rfl
theorem c49_eq : cmp Tryz.f49 = some cf49 := by kernel_rfl
theorem c50_eq : cmp Tryz.f50 = some cf50 := by kernel_rfl
theorem c51_eq : cmp Tryz.f51 = some cf51 := by kernel_rfl
theorem c52_eq : cmp Tryz.f52 = some cf52 := by kernel_rfl
theorem c53_eq : cmp Tryz.f53 = some cf53 := by kernel_rfl
theorem c54_eq : cmp Tryz.f54 = some cf54 := by kernel_rfl
theorem c56_eq : cmp Tryz.f56 = some cf56 := by kernel_rfl
theorem c57_eq : cmp Tryz.f57 = some cf57 := by kernel_rfl
theorem c58_eq : cmp Tryz.f58 = some cf58 := by kernel_rfl
theorem c59_eq : cmp Tryz.f59 = some cf59 := by kernel_rfl
theorem c60_eq : cmp Tryz.f60 = some cf60 := by kernel_rfl
theorem c61_eq : cmp Tryz.f61 = some cf61 := by kernel_rfl
theorem c62_eq : cmp Tryz.f62 = some cf62 := by kernel_rfl
theorem c63_eq : cmp Tryz.f63 = some cf63 := by kernel_rfl
theorem c70_eq : cmp Tryz.f70 = some cf70 := by kernel_rfl
theorem c71_eq : cmp Tryz.f71 = some cf71 := by kernel_rfl
theorem c73_eq : cmp Tryz.f73 = some cf73 := by kernel_rfl
theorem c74_eq : cmp Tryz.f74 = some cf74 := by kernel_rfl
theorem c79_eq : cmp Tryz.f79 = some cf79 := by kernel_rfl
theorem c83_eq : cmp Tryz.f83 = some cf83 := by kernel_rfl
theorem c85_eq : cmp Tryz.f85 = some cf85 := by kernel_rfl
theorem c86_eq : cmp Tryz.f86 = some cf86 := by kernel_rfl
theorem c87_eq : cmp Tryz.f87 = some cf87 := by kernel_rfl
theorem c88_eq : cmp Tryz.f88 = some cf88 := by kernel_rfl
theorem c91_eq : cmp Tryz.f91 = some cf91 := by kernel_rfl
theorem c92_eq : cmp Tryz.f92 = some cf92 := by kernel_rfl
theorem c93_eq : cmp Tryz.f93 = some cf93 := by kernel_rfl
theorem c94_eq : cmp Tryz.f94 = some cf94 := by kernel_rfl
theorem c95_eq : cmp Tryz.f95 = some cf95 := by kernel_rfl
theorem c96_eq : cmp Tryz.f96 = some cf96 := by kernel_rfl
theorem c97_eq : cmp Tryz.f97 = some cf97 := by kernel_rfl
theorem c98_eq : cmp Tryz.f98 = some cf98 := by kernel_rfl
theorem c99_eq : cmp Tryz.f99 = some cf99 := by kernel_rfl
theorem c100_eq : cmp Tryz.f100 = some cf100 := by kernel_rfl
theorem c101_eq : cmp Tryz.f101 = some cf101 := by kernel_rfl
theorem c102_eq : cmp Tryz.f102 = some cf102 := by kernel_rfl
theorem c103_eq : cmp Tryz.f103 = some cf103 := by kernel_rfl
theorem c104_eq : cmp Tryz.f104 = some cf104 := by kernel_rfl
theorem c105_eq : cmp Tryz.f105 = some cf105 := by kernel_rfl
theorem c106_eq : cmp Tryz.f106 = some cf106 := by kernel_rfl
theorem c109_eq : cmp Tryz.f109 = some cf109 := by kernel_rfl
theorem c110_eq : cmp Tryz.f110 = some cf110 := by kernel_rfl
theorem c111_eq : cmp Tryz.f111 = some cf111 := by kernel_rfl
theorem c115_eq : cmp Tryz.f115 = some cf115 := by kernel_rfl
theorem c116_eq : cmp Tryz.f116 = some cf116 := by kernel_rfl
theorem c117_eq : cmp Tryz.f117 = some cf117 := by kernel_rfl
theorem c130_eq : cmp Tryz.f130 = some cf130 := by kernel_rfl
theorem c135_eq : cmp Tryz.f135 = some cf135 := by kernel_rfl
theorem c136_eq : cmp Tryz.f136 = some cf136 := by kernel_rfl
theorem c137_eq : cmp Tryz.f137 = some cf137 := by kernel_rfl
theorem c139_eq : cmp Tryz.f139 = some cf139 := by kernel_rfl
theorem c144_eq : cmp Tryz.f144 = some cf144 := by kernel_rfl
theorem c148_eq : cmp Tryz.f148 = some cf148 := by kernel_rfl
theorem c149_eq : cmp Tryz.f149 = some cf149 := by kernel_rfl
theorem c150_eq : cmp Tryz.f150 = some cf150 := by kernel_rfl
theorem c151_eq : cmp Tryz.f151 = some cf151 := by kernel_rfl
theorem c154_eq : cmp Tryz.f154 = some cf154 := by kernel_rfl
theorem c155_eq : cmp Tryz.f155 = some cf155 := by kernel_rfl
theorem c159_eq : cmp Tryz.f159 = some cf159 := by kernel_rfl
theorem c161_eq : cmp Tryz.f161 = some cf161 := by kernel_rfl
theorem c162_eq : cmp Tryz.f162 = some cf162 := by kernel_rfl
theorem c163_eq : cmp Tryz.f163 = some cf163 := by kernel_rfl
theorem c164_eq : cmp Tryz.f164 = some cf164 := by kernel_rfl
theorem c172_eq : cmp Tryz.f172 = some cf172 := by kernel_rfl
theorem c174_eq : cmp Tryz.f174 = some cf174 := by kernel_rfl
theorem c178_eq : cmp Tryz.f178 = some cf178 := by kernel_rfl
theorem c180_eq : cmp Tryz.f180 = some cf180 := by kernel_rfl
theorem c197_eq : cmp Tryz.f197 = some cf197 := by kernel_rfl
theorem c198_eq : cmp Tryz.f198 = some cf198 := by kernel_rfl
theorem c199_eq : cmp Tryz.f199 = some cf199 := by kernel_rfl
theorem c203_eq : cmp Tryz.f203 = some cf203 := by kernel_rfl
theorem c204_eq : cmp Tryz.f204 = some cf204 := by kernel_rfl
theorem c205_eq : cmp Tryz.f205 = some cf205 := by kernel_rfl
theorem c206_eq : cmp Tryz.f206 = some cf206 := by kernel_rfl
theorem c207_eq : cmp Tryz.f207 = some cf207 := by kernel_rfl
theorem c212_eq : cmp Tryz.f212 = some cf212 := by kernel_rfl
theorem c213_eq : cmp Tryz.f213 = some cf213 := by kernel_rfl
theorem c215_eq : cmp Tryz.f215 = some cf215 := by kernel_rfl
theorem c243_eq : cmp Tryz.f243 = some cf243 := by kernel_rfl
theorem c244_eq : cmp Tryz.f244 = some cf244 := by kernel_rfl
theorem c246_eq : cmp Tryz.f246 = some cf246 := by kernel_rfl
theorem c279_eq : cmp Tryz.f279 = some cf279 := by kernel_rfl
noncomputable def ct64 : T CF := T.node T.leaf (some cf63) T.leaf
noncomputable def ct130 : T CF := T.node T.leaf (some cf159) T.leaf
noncomputable def ct65 : T CF := T.node ct130 (some cf95) T.leaf
noncomputable def ct32 : T CF := T.node ct64 (some cf31) ct65
noncomputable def ct133 : T CF := T.node T.leaf (some cf207) T.leaf
noncomputable def ct66 : T CF := T.node T.leaf (some cf79) ct133
noncomputable def ct67 : T CF := T.node T.leaf (some cf111) T.leaf
noncomputable def ct33 : T CF := T.node ct66 (some cf47) ct67
noncomputable def ct16 : T CF := T.node ct32 (some cf15) ct33
noncomputable def ct136 : T CF := T.node T.leaf (some cf135) T.leaf
noncomputable def ct137 : T CF := T.node T.leaf (some cf199) T.leaf
noncomputable def ct68 : T CF := T.node ct136 (some cf71) ct137
noncomputable def ct69 : T CF := T.node T.leaf (some cf103) T.leaf
noncomputable def ct34 : T CF := T.node ct68 (some cf39) ct69
noncomputable def ct280 : T CF := T.node T.leaf (some cf279) T.leaf
noncomputable def ct140 : T CF := T.node ct280 (some cf151) T.leaf
noncomputable def ct141 : T CF := T.node T.leaf (some cf215) T.leaf
noncomputable def ct70 : T CF := T.node ct140 (some cf87) ct141
noncomputable def ct35 : T CF := T.node ct70 (none) T.leaf
noncomputable def ct17 : T CF := T.node ct34 (some cf23) ct35
noncomputable def ct8 : T CF := T.node ct16 (some cf7) ct17
noncomputable def ct146 : T CF := T.node T.leaf (some cf163) T.leaf
noncomputable def ct73 : T CF := T.node ct146 (some cf99) T.leaf
noncomputable def ct36 : T CF := T.node T.leaf (none) ct73
noncomputable def ct74 : T CF := T.node T.leaf (some cf83) T.leaf
noncomputable def ct151 : T CF := T.node T.leaf (some cf243) T.leaf
noncomputable def ct75 : T CF := T.node T.leaf (some cf115) ct151
noncomputable def ct37 : T CF := T.node ct74 (some cf51) ct75
noncomputable def ct18 : T CF := T.node ct36 (some cf19) ct37
noncomputable def ct152 : T CF := T.node T.leaf (some cf139) T.leaf
noncomputable def ct153 : T CF := T.node T.leaf (some cf203) T.leaf
noncomputable def ct76 : T CF := T.node ct152 (none) ct153
noncomputable def ct38 : T CF := T.node ct76 (some cf43) T.leaf
noncomputable def ct156 : T CF := T.node T.leaf (some cf155) T.leaf
noncomputable def ct78 : T CF := T.node ct156 (some cf91) T.leaf
noncomputable def ct39 : T CF := T.node ct78 (some cf59) T.leaf
noncomputable def ct19 : T CF := T.node ct38 (some cf27) ct39
noncomputable def ct9 : T CF := T.node ct18 (some cf11) ct19
noncomputable def ct4 : T CF := T.node ct8 (some cf3) ct9
noncomputable def ct162 : T CF := T.node T.leaf (some cf161) T.leaf
noncomputable def ct81 : T CF := T.node ct162 (some cf97) T.leaf
noncomputable def ct40 : T CF := T.node T.leaf (some cf33) ct81
noncomputable def ct41 : T CF := T.node T.leaf (some cf49) T.leaf
noncomputable def ct20 : T CF := T.node ct40 (some cf17) ct41
noncomputable def ct168 : T CF := T.node T.leaf (some cf137) T.leaf
noncomputable def ct84 : T CF := T.node ct168 (some cf73) T.leaf
noncomputable def ct85 : T CF := T.node T.leaf (some cf105) T.leaf
noncomputable def ct42 : T CF := T.node ct84 (some cf41) ct85
noncomputable def ct43 : T CF := T.node T.leaf (some cf57) T.leaf
noncomputable def ct21 : T CF := T.node ct42 (some cf25) ct43
noncomputable def ct10 : T CF := T.node ct20 (some cf9) ct21
noncomputable def ct177 : T CF := T.node T.leaf (some cf197) T.leaf
noncomputable def ct88 : T CF := T.node T.leaf (none) ct177
noncomputable def ct89 : T CF := T.node T.leaf (some cf101) T.leaf
noncomputable def ct44 : T CF := T.node ct88 (some cf37) ct89
noncomputable def ct180 : T CF := T.node T.leaf (some cf149) T.leaf
noncomputable def ct181 : T CF := T.node T.leaf (some cf213) T.leaf
noncomputable def ct90 : T CF := T.node ct180 (some cf85) ct181
noncomputable def ct91 : T CF := T.node T.leaf (some cf117) T.leaf
noncomputable def ct45 : T CF := T.node ct90 (some cf53) ct91
noncomputable def ct22 : T CF := T.node ct44 (some cf21) ct45
noncomputable def ct185 : T CF := T.node T.leaf (some cf205) T.leaf
noncomputable def ct92 : T CF := T.node T.leaf (none) ct185
noncomputable def ct93 : T CF := T.node T.leaf (some cf109) T.leaf
noncomputable def ct46 : T CF := T.node ct92 (some cf45) ct93
noncomputable def ct94 : T CF := T.node T.leaf (some cf93) T.leaf
noncomputable def ct47 : T CF := T.node ct94 (some cf61) T.leaf
noncomputable def ct23 : T CF := T.node ct46 (some cf29) ct47
noncomputable def ct11 : T CF := T.node ct22 (some cf13) ct23
noncomputable def ct5 : T CF := T.node ct10 (some cf5) ct11
noncomputable def ct2 : T CF := T.node ct4 (none) ct5
noncomputable def ct97 : T CF := T.node T.leaf (some cf96) T.leaf
noncomputable def ct48 : T CF := T.node T.leaf (some cf32) ct97
noncomputable def ct196 : T CF := T.node T.leaf (some cf144) T.leaf
noncomputable def ct98 : T CF := T.node ct196 (none) T.leaf
noncomputable def ct49 : T CF := T.node ct98 (some cf48) T.leaf
noncomputable def ct24 : T CF := T.node ct48 (some cf16) ct49
noncomputable def ct200 : T CF := T.node T.leaf (some cf136) T.leaf
noncomputable def ct100 : T CF := T.node ct200 (none) T.leaf
noncomputable def ct101 : T CF := T.node T.leaf (some cf104) T.leaf
noncomputable def ct50 : T CF := T.node ct100 (some cf40) ct101
noncomputable def ct102 : T CF := T.node T.leaf (some cf88) T.leaf
noncomputable def ct51 : T CF := T.node ct102 (some cf56) T.leaf
noncomputable def ct25 : T CF := T.node ct50 (some cf24) ct51
noncomputable def ct12 : T CF := T.node ct24 (some cf8) ct25
noncomputable def ct210 : T CF := T.node T.leaf (some cf164) T.leaf
noncomputable def ct105 : T CF := T.node ct210 (some cf100) T.leaf
noncomputable def ct52 : T CF := T.node T.leaf (none) ct105
noncomputable def ct212 : T CF := T.node T.leaf (some cf148) T.leaf
noncomputable def ct213 : T CF := T.node T.leaf (some cf212) T.leaf
noncomputable def ct106 : T CF := T.node ct212 (none) ct213
noncomputable def ct214 : T CF := T.node T.leaf (some cf180) T.leaf
noncomputable def ct215 : T CF := T.node T.leaf (some cf244) T.leaf
noncomputable def ct107 : T CF := T.node ct214 (some cf116) ct215
noncomputable def ct53 : T CF := T.node ct106 (some cf52) ct107
noncomputable def ct26 : T CF := T.node ct52 (some cf20) ct53
noncomputable def ct217 : T CF := T.node T.leaf (some cf204) T.leaf
noncomputable def ct108 : T CF := T.node T.leaf (none) ct217
noncomputable def ct218 : T CF := T.node T.leaf (some cf172) T.leaf
noncomputable def ct109 : T CF := T.node ct218 (none) T.leaf
noncomputable def ct54 : T CF := T.node ct108 (some cf44) ct109
noncomputable def ct110 : T CF := T.node T.leaf (some cf92) T.leaf
noncomputable def ct55 : T CF := T.node ct110 (some cf60) T.leaf
noncomputable def ct27 : T CF := T.node ct54 (some cf28) ct55
noncomputable def ct13 : T CF := T.node ct26 (some cf12) ct27
noncomputable def ct6 : T CF := T.node ct12 (some cf4) ct13
noncomputable def ct224 : T CF := T.node T.leaf (some cf130) T.leaf
noncomputable def ct112 : T CF := T.node ct224 (none) T.leaf
noncomputable def ct226 : T CF := T.node T.leaf (some cf162) T.leaf
noncomputable def ct113 : T CF := T.node ct226 (some cf98) T.leaf
noncomputable def ct56 : T CF := T.node ct112 (some cf34) ct113
noncomputable def ct230 : T CF := T.node T.leaf (some cf178) T.leaf
noncomputable def ct115 : T CF := T.node ct230 (none) T.leaf
noncomputable def ct57 : T CF := T.node T.leaf (some cf50) ct115
noncomputable def ct28 : T CF := T.node ct56 (some cf18) ct57
noncomputable def ct116 : T CF := T.node T.leaf (some cf74) T.leaf
noncomputable def ct117 : T CF := T.node T.leaf (some cf106) T.leaf
noncomputable def ct58 : T CF := T.node ct116 (none) ct117
noncomputable def ct236 : T CF := T.node T.leaf (some cf154) T.leaf
noncomputable def ct118 : T CF := T.node ct236 (none) T.leaf
noncomputable def ct59 : T CF := T.node ct118 (some cf58) T.leaf
noncomputable def ct29 : T CF := T.node ct58 (some cf26) ct59
noncomputable def ct14 : T CF := T.node ct28 (some cf10) ct29
noncomputable def ct241 : T CF := T.node T.leaf (some cf198) T.leaf
noncomputable def ct120 : T CF := T.node T.leaf (some cf70) ct241
noncomputable def ct121 : T CF := T.node T.leaf (some cf102) T.leaf
noncomputable def ct60 : T CF := T.node ct120 (some cf38) ct121
noncomputable def ct244 : T CF := T.node T.leaf (some cf150) T.leaf
noncomputable def ct122 : T CF := T.node ct244 (some cf86) T.leaf
noncomputable def ct247 : T CF := T.node T.leaf (some cf246) T.leaf
noncomputable def ct123 : T CF := T.node T.leaf (none) ct247
noncomputable def ct61 : T CF := T.node ct122 (some cf54) ct123
noncomputable def ct30 : T CF := T.node ct60 (some cf22) ct61
noncomputable def ct249 : T CF := T.node T.leaf (some cf206) T.leaf
noncomputable def ct124 : T CF := T.node T.leaf (none) ct249
noncomputable def ct250 : T CF := T.node T.leaf (some cf174) T.leaf
noncomputable def ct125 : T CF := T.node ct250 (some cf110) T.leaf
noncomputable def ct62 : T CF := T.node ct124 (some cf46) ct125
noncomputable def ct126 : T CF := T.node T.leaf (some cf94) T.leaf
noncomputable def ct63 : T CF := T.node ct126 (some cf62) T.leaf
noncomputable def ct31 : T CF := T.node ct62 (some cf30) ct63
noncomputable def ct15 : T CF := T.node ct30 (some cf14) ct31
noncomputable def ct7 : T CF := T.node ct14 (some cf6) ct15
noncomputable def ct3 : T CF := T.node ct6 (none) ct7
noncomputable def ct1 : T CF := T.node ct2 (none) ct3
theorem ct64_eq : mapT cmp ft64 = ct64 := mapT_node mapT_leaf c63_eq mapT_leaf
theorem ct130_eq : mapT cmp ft130 = ct130 := mapT_node mapT_leaf c159_eq mapT_leaf
theorem ct65_eq : mapT cmp ft65 = ct65 := mapT_node ct130_eq c95_eq mapT_leaf
theorem ct32_eq : mapT cmp ft32 = ct32 := mapT_node ct64_eq c31_eq ct65_eq
theorem ct133_eq : mapT cmp ft133 = ct133 := mapT_node mapT_leaf c207_eq mapT_leaf
theorem ct66_eq : mapT cmp ft66 = ct66 := mapT_node mapT_leaf c79_eq ct133_eq
theorem ct67_eq : mapT cmp ft67 = ct67 := mapT_node mapT_leaf c111_eq mapT_leaf
theorem ct33_eq : mapT cmp ft33 = ct33 := mapT_node ct66_eq c47_eq ct67_eq
theorem ct16_eq : mapT cmp ft16 = ct16 := mapT_node ct32_eq c15_eq ct33_eq
theorem ct136_eq : mapT cmp ft136 = ct136 := mapT_node mapT_leaf c135_eq mapT_leaf
theorem ct137_eq : mapT cmp ft137 = ct137 := mapT_node mapT_leaf c199_eq mapT_leaf
theorem ct68_eq : mapT cmp ft68 = ct68 := mapT_node ct136_eq c71_eq ct137_eq
theorem ct69_eq : mapT cmp ft69 = ct69 := mapT_node mapT_leaf c103_eq mapT_leaf
theorem ct34_eq : mapT cmp ft34 = ct34 := mapT_node ct68_eq c39_eq ct69_eq
theorem ct280_eq : mapT cmp ft280 = ct280 := mapT_node mapT_leaf c279_eq mapT_leaf
theorem ct140_eq : mapT cmp ft140 = ct140 := mapT_node ct280_eq c151_eq mapT_leaf
theorem ct141_eq : mapT cmp ft141 = ct141 := mapT_node mapT_leaf c215_eq mapT_leaf
theorem ct70_eq : mapT cmp ft70 = ct70 := mapT_node ct140_eq c87_eq ct141_eq
theorem ct35_eq : mapT cmp ft35 = ct35 := mapT_node ct70_eq rfl mapT_leaf
theorem ct17_eq : mapT cmp ft17 = ct17 := mapT_node ct34_eq c23_eq ct35_eq
theorem ct8_eq : mapT cmp ft8 = ct8 := mapT_node ct16_eq c7_eq ct17_eq
theorem ct146_eq : mapT cmp ft146 = ct146 := mapT_node mapT_leaf c163_eq mapT_leaf
theorem ct73_eq : mapT cmp ft73 = ct73 := mapT_node ct146_eq c99_eq mapT_leaf
theorem ct36_eq : mapT cmp ft36 = ct36 := mapT_node mapT_leaf rfl ct73_eq
theorem ct74_eq : mapT cmp ft74 = ct74 := mapT_node mapT_leaf c83_eq mapT_leaf
theorem ct151_eq : mapT cmp ft151 = ct151 := mapT_node mapT_leaf c243_eq mapT_leaf
theorem ct75_eq : mapT cmp ft75 = ct75 := mapT_node mapT_leaf c115_eq ct151_eq
theorem ct37_eq : mapT cmp ft37 = ct37 := mapT_node ct74_eq c51_eq ct75_eq
theorem ct18_eq : mapT cmp ft18 = ct18 := mapT_node ct36_eq c19_eq ct37_eq
theorem ct152_eq : mapT cmp ft152 = ct152 := mapT_node mapT_leaf c139_eq mapT_leaf
theorem ct153_eq : mapT cmp ft153 = ct153 := mapT_node mapT_leaf c203_eq mapT_leaf
theorem ct76_eq : mapT cmp ft76 = ct76 := mapT_node ct152_eq rfl ct153_eq
theorem ct38_eq : mapT cmp ft38 = ct38 := mapT_node ct76_eq c43_eq mapT_leaf
theorem ct156_eq : mapT cmp ft156 = ct156 := mapT_node mapT_leaf c155_eq mapT_leaf
theorem ct78_eq : mapT cmp ft78 = ct78 := mapT_node ct156_eq c91_eq mapT_leaf
theorem ct39_eq : mapT cmp ft39 = ct39 := mapT_node ct78_eq c59_eq mapT_leaf
theorem ct19_eq : mapT cmp ft19 = ct19 := mapT_node ct38_eq c27_eq ct39_eq
theorem ct9_eq : mapT cmp ft9 = ct9 := mapT_node ct18_eq c11_eq ct19_eq
theorem ct4_eq : mapT cmp ft4 = ct4 := mapT_node ct8_eq c3_eq ct9_eq
theorem ct162_eq : mapT cmp ft162 = ct162 := mapT_node mapT_leaf c161_eq mapT_leaf
theorem ct81_eq : mapT cmp ft81 = ct81 := mapT_node ct162_eq c97_eq mapT_leaf
theorem ct40_eq : mapT cmp ft40 = ct40 := mapT_node mapT_leaf c33_eq ct81_eq
theorem ct41_eq : mapT cmp ft41 = ct41 := mapT_node mapT_leaf c49_eq mapT_leaf
theorem ct20_eq : mapT cmp ft20 = ct20 := mapT_node ct40_eq c17_eq ct41_eq
theorem ct168_eq : mapT cmp ft168 = ct168 := mapT_node mapT_leaf c137_eq mapT_leaf
theorem ct84_eq : mapT cmp ft84 = ct84 := mapT_node ct168_eq c73_eq mapT_leaf
theorem ct85_eq : mapT cmp ft85 = ct85 := mapT_node mapT_leaf c105_eq mapT_leaf
theorem ct42_eq : mapT cmp ft42 = ct42 := mapT_node ct84_eq c41_eq ct85_eq
theorem ct43_eq : mapT cmp ft43 = ct43 := mapT_node mapT_leaf c57_eq mapT_leaf
theorem ct21_eq : mapT cmp ft21 = ct21 := mapT_node ct42_eq c25_eq ct43_eq
theorem ct10_eq : mapT cmp ft10 = ct10 := mapT_node ct20_eq c9_eq ct21_eq
theorem ct177_eq : mapT cmp ft177 = ct177 := mapT_node mapT_leaf c197_eq mapT_leaf
theorem ct88_eq : mapT cmp ft88 = ct88 := mapT_node mapT_leaf rfl ct177_eq
theorem ct89_eq : mapT cmp ft89 = ct89 := mapT_node mapT_leaf c101_eq mapT_leaf
theorem ct44_eq : mapT cmp ft44 = ct44 := mapT_node ct88_eq c37_eq ct89_eq
theorem ct180_eq : mapT cmp ft180 = ct180 := mapT_node mapT_leaf c149_eq mapT_leaf
theorem ct181_eq : mapT cmp ft181 = ct181 := mapT_node mapT_leaf c213_eq mapT_leaf
theorem ct90_eq : mapT cmp ft90 = ct90 := mapT_node ct180_eq c85_eq ct181_eq
theorem ct91_eq : mapT cmp ft91 = ct91 := mapT_node mapT_leaf c117_eq mapT_leaf
theorem ct45_eq : mapT cmp ft45 = ct45 := mapT_node ct90_eq c53_eq ct91_eq
theorem ct22_eq : mapT cmp ft22 = ct22 := mapT_node ct44_eq c21_eq ct45_eq
theorem ct185_eq : mapT cmp ft185 = ct185 := mapT_node mapT_leaf c205_eq mapT_leaf
theorem ct92_eq : mapT cmp ft92 = ct92 := mapT_node mapT_leaf rfl ct185_eq
theorem ct93_eq : mapT cmp ft93 = ct93 := mapT_node mapT_leaf c109_eq mapT_leaf
theorem ct46_eq : mapT cmp ft46 = ct46 := mapT_node ct92_eq c45_eq ct93_eq
theorem ct94_eq : mapT cmp ft94 = ct94 := mapT_node mapT_leaf c93_eq mapT_leaf
theorem ct47_eq : mapT cmp ft47 = ct47 := mapT_node ct94_eq c61_eq mapT_leaf
theorem ct23_eq : mapT cmp ft23 = ct23 := mapT_node ct46_eq c29_eq ct47_eq
theorem ct11_eq : mapT cmp ft11 = ct11 := mapT_node ct22_eq c13_eq ct23_eq
theorem ct5_eq : mapT cmp ft5 = ct5 := mapT_node ct10_eq c5_eq ct11_eq
theorem ct2_eq : mapT cmp ft2 = ct2 := mapT_node ct4_eq rfl ct5_eq
theorem ct97_eq : mapT cmp ft97 = ct97 := mapT_node mapT_leaf c96_eq mapT_leaf
theorem ct48_eq : mapT cmp ft48 = ct48 := mapT_node mapT_leaf c32_eq ct97_eq
theorem ct196_eq : mapT cmp ft196 = ct196 := mapT_node mapT_leaf c144_eq mapT_leaf
theorem ct98_eq : mapT cmp ft98 = ct98 := mapT_node ct196_eq rfl mapT_leaf
theorem ct49_eq : mapT cmp ft49 = ct49 := mapT_node ct98_eq c48_eq mapT_leaf
theorem ct24_eq : mapT cmp ft24 = ct24 := mapT_node ct48_eq c16_eq ct49_eq
theorem ct200_eq : mapT cmp ft200 = ct200 := mapT_node mapT_leaf c136_eq mapT_leaf
theorem ct100_eq : mapT cmp ft100 = ct100 := mapT_node ct200_eq rfl mapT_leaf
theorem ct101_eq : mapT cmp ft101 = ct101 := mapT_node mapT_leaf c104_eq mapT_leaf
theorem ct50_eq : mapT cmp ft50 = ct50 := mapT_node ct100_eq c40_eq ct101_eq
theorem ct102_eq : mapT cmp ft102 = ct102 := mapT_node mapT_leaf c88_eq mapT_leaf
theorem ct51_eq : mapT cmp ft51 = ct51 := mapT_node ct102_eq c56_eq mapT_leaf
theorem ct25_eq : mapT cmp ft25 = ct25 := mapT_node ct50_eq c24_eq ct51_eq
theorem ct12_eq : mapT cmp ft12 = ct12 := mapT_node ct24_eq c8_eq ct25_eq
theorem ct210_eq : mapT cmp ft210 = ct210 := mapT_node mapT_leaf c164_eq mapT_leaf
theorem ct105_eq : mapT cmp ft105 = ct105 := mapT_node ct210_eq c100_eq mapT_leaf
theorem ct52_eq : mapT cmp ft52 = ct52 := mapT_node mapT_leaf rfl ct105_eq
theorem ct212_eq : mapT cmp ft212 = ct212 := mapT_node mapT_leaf c148_eq mapT_leaf
theorem ct213_eq : mapT cmp ft213 = ct213 := mapT_node mapT_leaf c212_eq mapT_leaf
theorem ct106_eq : mapT cmp ft106 = ct106 := mapT_node ct212_eq rfl ct213_eq
theorem ct214_eq : mapT cmp ft214 = ct214 := mapT_node mapT_leaf c180_eq mapT_leaf
theorem ct215_eq : mapT cmp ft215 = ct215 := mapT_node mapT_leaf c244_eq mapT_leaf
theorem ct107_eq : mapT cmp ft107 = ct107 := mapT_node ct214_eq c116_eq ct215_eq
theorem ct53_eq : mapT cmp ft53 = ct53 := mapT_node ct106_eq c52_eq ct107_eq
theorem ct26_eq : mapT cmp ft26 = ct26 := mapT_node ct52_eq c20_eq ct53_eq
theorem ct217_eq : mapT cmp ft217 = ct217 := mapT_node mapT_leaf c204_eq mapT_leaf
theorem ct108_eq : mapT cmp ft108 = ct108 := mapT_node mapT_leaf rfl ct217_eq
theorem ct218_eq : mapT cmp ft218 = ct218 := mapT_node mapT_leaf c172_eq mapT_leaf
theorem ct109_eq : mapT cmp ft109 = ct109 := mapT_node ct218_eq rfl mapT_leaf
theorem ct54_eq : mapT cmp ft54 = ct54 := mapT_node ct108_eq c44_eq ct109_eq
theorem ct110_eq : mapT cmp ft110 = ct110 := mapT_node mapT_leaf c92_eq mapT_leaf
theorem ct55_eq : mapT cmp ft55 = ct55 := mapT_node ct110_eq c60_eq mapT_leaf
theorem ct27_eq : mapT cmp ft27 = ct27 := mapT_node ct54_eq c28_eq ct55_eq
theorem ct13_eq : mapT cmp ft13 = ct13 := mapT_node ct26_eq c12_eq ct27_eq
theorem ct6_eq : mapT cmp ft6 = ct6 := mapT_node ct12_eq c4_eq ct13_eq
theorem ct224_eq : mapT cmp ft224 = ct224 := mapT_node mapT_leaf c130_eq mapT_leaf
theorem ct112_eq : mapT cmp ft112 = ct112 := mapT_node ct224_eq rfl mapT_leaf
theorem ct226_eq : mapT cmp ft226 = ct226 := mapT_node mapT_leaf c162_eq mapT_leaf
theorem ct113_eq : mapT cmp ft113 = ct113 := mapT_node ct226_eq c98_eq mapT_leaf
theorem ct56_eq : mapT cmp ft56 = ct56 := mapT_node ct112_eq c34_eq ct113_eq
theorem ct230_eq : mapT cmp ft230 = ct230 := mapT_node mapT_leaf c178_eq mapT_leaf
theorem ct115_eq : mapT cmp ft115 = ct115 := mapT_node ct230_eq rfl mapT_leaf
theorem ct57_eq : mapT cmp ft57 = ct57 := mapT_node mapT_leaf c50_eq ct115_eq
theorem ct28_eq : mapT cmp ft28 = ct28 := mapT_node ct56_eq c18_eq ct57_eq
theorem ct116_eq : mapT cmp ft116 = ct116 := mapT_node mapT_leaf c74_eq mapT_leaf
theorem ct117_eq : mapT cmp ft117 = ct117 := mapT_node mapT_leaf c106_eq mapT_leaf
theorem ct58_eq : mapT cmp ft58 = ct58 := mapT_node ct116_eq rfl ct117_eq
theorem ct236_eq : mapT cmp ft236 = ct236 := mapT_node mapT_leaf c154_eq mapT_leaf
theorem ct118_eq : mapT cmp ft118 = ct118 := mapT_node ct236_eq rfl mapT_leaf
theorem ct59_eq : mapT cmp ft59 = ct59 := mapT_node ct118_eq c58_eq mapT_leaf
theorem ct29_eq : mapT cmp ft29 = ct29 := mapT_node ct58_eq c26_eq ct59_eq
theorem ct14_eq : mapT cmp ft14 = ct14 := mapT_node ct28_eq c10_eq ct29_eq
theorem ct241_eq : mapT cmp ft241 = ct241 := mapT_node mapT_leaf c198_eq mapT_leaf
theorem ct120_eq : mapT cmp ft120 = ct120 := mapT_node mapT_leaf c70_eq ct241_eq
theorem ct121_eq : mapT cmp ft121 = ct121 := mapT_node mapT_leaf c102_eq mapT_leaf
theorem ct60_eq : mapT cmp ft60 = ct60 := mapT_node ct120_eq c38_eq ct121_eq
theorem ct244_eq : mapT cmp ft244 = ct244 := mapT_node mapT_leaf c150_eq mapT_leaf
theorem ct122_eq : mapT cmp ft122 = ct122 := mapT_node ct244_eq c86_eq mapT_leaf
theorem ct247_eq : mapT cmp ft247 = ct247 := mapT_node mapT_leaf c246_eq mapT_leaf
theorem ct123_eq : mapT cmp ft123 = ct123 := mapT_node mapT_leaf rfl ct247_eq
theorem ct61_eq : mapT cmp ft61 = ct61 := mapT_node ct122_eq c54_eq ct123_eq
theorem ct30_eq : mapT cmp ft30 = ct30 := mapT_node ct60_eq c22_eq ct61_eq
theorem ct249_eq : mapT cmp ft249 = ct249 := mapT_node mapT_leaf c206_eq mapT_leaf
theorem ct124_eq : mapT cmp ft124 = ct124 := mapT_node mapT_leaf rfl ct249_eq
theorem ct250_eq : mapT cmp ft250 = ct250 := mapT_node mapT_leaf c174_eq mapT_leaf
theorem ct125_eq : mapT cmp ft125 = ct125 := mapT_node ct250_eq c110_eq mapT_leaf
theorem ct62_eq : mapT cmp ft62 = ct62 := mapT_node ct124_eq c46_eq ct125_eq
theorem ct126_eq : mapT cmp ft126 = ct126 := mapT_node mapT_leaf c94_eq mapT_leaf
theorem ct63_eq : mapT cmp ft63 = ct63 := mapT_node ct126_eq c62_eq mapT_leaf
theorem ct31_eq : mapT cmp ft31 = ct31 := mapT_node ct62_eq c30_eq ct63_eq
theorem ct15_eq : mapT cmp ft15 = ct15 := mapT_node ct30_eq c14_eq ct31_eq
theorem ct7_eq : mapT cmp ft7 = ct7 := mapT_node ct14_eq c6_eq ct15_eq
theorem ct3_eq : mapT cmp ft3 = ct3 := mapT_node ct6_eq rfl ct7_eq
theorem ct1_eq : mapT cmp ft1 = ct1 := mapT_node ct2_eq rfl ct3_eq

theorem FC_ok (k : Nat) : ct1.at_ k = (G.F.at_ k).bind (compF G.D.at_ G.ext) := by
  have h : (mapT cmp ft1).at_ k = (ft1.at_ k).bind cmp := mapT_get cmp ft1 (k + 1)
  rw [ct1_eq] at h
  exact h

end Go.Proofs.YtdkcihleblbkaaaGreatDoor.Eng
