/- Closed facts on the tables of the program, each by the kernel: written by a program. -/
import Derived.Test.YtljgnocpijniiaaGreatDoorDen
import Derived.Test.YtljgnocpijniiaaGreatDoorProg
import Derived.KernelRfl
set_option maxRecDepth 100000
namespace Go.Proofs.YtljgnocpijniiaaGreatDoor
open Go
theorem mixed : Tryz.prog.follows .mixedOrders = true := by kernel_rfl
theorem tb_bsT_147_0 : bsT Tryz.prog 147 0 = some (9, 1, #[]) := by kernel_rfl
theorem tb_bsT_147_1 : bsT Tryz.prog 147 1 = some (9, 1, #[.string ByteArray.empty]) := by kernel_rfl
theorem tb_bsT_22_0 : bsT Tryz.prog 22 0 = some (115, 2, #[]) := by kernel_rfl
theorem tb_bsT_22_1 : bsT Tryz.prog 22 1 = some (115, 2, #[.string ByteArray.empty, .string ByteArray.empty]) := by kernel_rfl
theorem tb_bsT_23_0 : bsT Tryz.prog 23 0 = some (98, 2, #[]) := by kernel_rfl
theorem tb_bsT_23_1 : bsT Tryz.prog 23 1 = some (98, 2, #[.string ByteArray.empty, .int .i64 0]) := by kernel_rfl
theorem tb_bsT_36_0 : bsT Tryz.prog 36 0 = some (25, 4, #[]) := by kernel_rfl
theorem tb_bsT_36_1 : bsT Tryz.prog 36 1 = some (25, 4, #[.string ByteArray.empty, .slice none 0 0, .slice none 0 0, .int .i64 0]) := by kernel_rfl
theorem tb_bsT_42_0 : bsT Tryz.prog 42 0 = some (60, 6, #[]) := by kernel_rfl
theorem tb_bsT_42_1 : bsT Tryz.prog 42 1 = some (60, 6, #[.string ByteArray.empty, .slice none 0 0, .string ByteArray.empty, .int .i64 0, .int .u8 0, .int .i64 0]) := by kernel_rfl
theorem tb_bsT_48_2 : bsT Tryz.prog 48 2 = some (3, 1, #[.int .i64 0, .int .i64 0]) := by kernel_rfl
theorem tb_bsT_48_3 : bsT Tryz.prog 48 3 = some (3, 1, #[.int .i64 0, .int .i64 0, .int .i64 0]) := by kernel_rfl
theorem tb_bsT_82_2 : bsT Tryz.prog 82 2 = some (42, 1, #[.slice none 0 0, .slice none 0 0]) := by kernel_rfl
theorem tb_buildT_103 : buildT Tryz.prog 103 = some (#[.int .i64 0, .nilIface], [(0, 1), (1, 1)]) := by kernel_rfl
theorem tb_buildT_115 : buildT Tryz.prog 115 = some (#[.string ByteArray.empty, .string ByteArray.empty], [(0, 1), (1, 1)]) := by kernel_rfl
theorem tb_buildT_25 : buildT Tryz.prog 25 = some (#[.string ByteArray.empty, .slice none 0 0, .slice none 0 0, .int .i64 0], [(0, 1), (1, 1), (2, 1), (3, 1)]) := by kernel_rfl
theorem tb_buildT_33 : buildT Tryz.prog 33 = some (#[.int .i64 0, .int .i64 0, .int .i64 0, .bool false, .bool false], [(0, 1), (1, 1), (2, 1), (3, 1), (4, 1)]) := by kernel_rfl
theorem tb_buildT_53 : buildT Tryz.prog 53 = some (#[.string ByteArray.empty, .slice none 0 0, .string ByteArray.empty], [(0, 1), (1, 1), (2, 1)]) := by kernel_rfl
theorem tb_buildT_56 : buildT Tryz.prog 56 = some (#[.int .u8 0, .int .i64 0], [(0, 1), (1, 1)]) := by kernel_rfl
theorem tb_buildT_58 : buildT Tryz.prog 58 = some (#[.int .i64 0, .int .u8 0, .int .i64 0], [(0, 1), (1, 2)]) := by kernel_rfl
theorem tb_buildT_60 : buildT Tryz.prog 60 = some (#[.string ByteArray.empty, .slice none 0 0, .string ByteArray.empty, .int .i64 0, .int .u8 0, .int .i64 0], [(0, 3), (3, 3)]) := by kernel_rfl
theorem tb_buildT_98 : buildT Tryz.prog 98 = some (#[.string ByteArray.empty, .int .i64 0], [(0, 1), (1, 1)]) := by kernel_rfl
theorem tb_callable_10 : callable Tryz.prog 10 = true := by kernel_rfl
theorem tb_callable_100 : callable Tryz.prog 100 = false := by kernel_rfl
theorem tb_callable_101 : callable Tryz.prog 101 = true := by kernel_rfl
theorem tb_callable_102 : callable Tryz.prog 102 = true := by kernel_rfl
theorem tb_callable_103 : callable Tryz.prog 103 = true := by kernel_rfl
theorem tb_callable_104 : callable Tryz.prog 104 = true := by kernel_rfl
theorem tb_callable_105 : callable Tryz.prog 105 = true := by kernel_rfl
theorem tb_callable_106 : callable Tryz.prog 106 = true := by kernel_rfl
theorem tb_callable_107 : callable Tryz.prog 107 = true := by kernel_rfl
theorem tb_callable_108 : callable Tryz.prog 108 = true := by kernel_rfl
theorem tb_callable_109 : callable Tryz.prog 109 = true := by kernel_rfl
theorem tb_callable_11 : callable Tryz.prog 11 = true := by kernel_rfl
theorem tb_callable_110 : callable Tryz.prog 110 = true := by kernel_rfl
theorem tb_callable_111 : callable Tryz.prog 111 = true := by kernel_rfl
theorem tb_callable_112 : callable Tryz.prog 112 = true := by kernel_rfl
theorem tb_callable_113 : callable Tryz.prog 113 = true := by kernel_rfl
theorem tb_callable_114 : callable Tryz.prog 114 = true := by kernel_rfl
theorem tb_callable_115 : callable Tryz.prog 115 = true := by kernel_rfl
theorem tb_callable_116 : callable Tryz.prog 116 = true := by kernel_rfl
theorem tb_callable_117 : callable Tryz.prog 117 = true := by kernel_rfl
theorem tb_callable_118 : callable Tryz.prog 118 = true := by kernel_rfl
theorem tb_callable_119 : callable Tryz.prog 119 = true := by kernel_rfl
theorem tb_callable_120 : callable Tryz.prog 120 = true := by kernel_rfl
theorem tb_callable_121 : callable Tryz.prog 121 = true := by kernel_rfl
theorem tb_callable_122 : callable Tryz.prog 122 = true := by kernel_rfl
theorem tb_callable_123 : callable Tryz.prog 123 = true := by kernel_rfl
theorem tb_callable_125 : callable Tryz.prog 125 = false := by kernel_rfl
theorem tb_callable_126 : callable Tryz.prog 126 = false := by kernel_rfl
theorem tb_callable_127 : callable Tryz.prog 127 = false := by kernel_rfl
theorem tb_callable_128 : callable Tryz.prog 128 = true := by kernel_rfl
theorem tb_callable_129 : callable Tryz.prog 129 = true := by kernel_rfl
theorem tb_callable_13 : callable Tryz.prog 13 = true := by kernel_rfl
theorem tb_callable_130 : callable Tryz.prog 130 = true := by kernel_rfl
theorem tb_callable_131 : callable Tryz.prog 131 = true := by kernel_rfl
theorem tb_callable_132 : callable Tryz.prog 132 = true := by kernel_rfl
theorem tb_callable_133 : callable Tryz.prog 133 = true := by kernel_rfl
theorem tb_callable_134 : callable Tryz.prog 134 = true := by kernel_rfl
theorem tb_callable_135 : callable Tryz.prog 135 = true := by kernel_rfl
theorem tb_callable_136 : callable Tryz.prog 136 = false := by kernel_rfl
theorem tb_callable_137 : callable Tryz.prog 137 = true := by kernel_rfl
theorem tb_callable_138 : callable Tryz.prog 138 = true := by kernel_rfl
theorem tb_callable_139 : callable Tryz.prog 139 = true := by kernel_rfl
theorem tb_callable_14 : callable Tryz.prog 14 = true := by kernel_rfl
theorem tb_callable_140 : callable Tryz.prog 140 = true := by kernel_rfl
theorem tb_callable_141 : callable Tryz.prog 141 = true := by kernel_rfl
theorem tb_callable_142 : callable Tryz.prog 142 = true := by kernel_rfl
theorem tb_callable_143 : callable Tryz.prog 143 = true := by kernel_rfl
theorem tb_callable_144 : callable Tryz.prog 144 = true := by kernel_rfl
theorem tb_callable_146 : callable Tryz.prog 146 = true := by kernel_rfl
theorem tb_callable_147 : callable Tryz.prog 147 = true := by kernel_rfl
theorem tb_callable_148 : callable Tryz.prog 148 = true := by kernel_rfl
theorem tb_callable_149 : callable Tryz.prog 149 = true := by kernel_rfl
theorem tb_callable_15 : callable Tryz.prog 15 = true := by kernel_rfl
theorem tb_callable_150 : callable Tryz.prog 150 = true := by kernel_rfl
theorem tb_callable_151 : callable Tryz.prog 151 = true := by kernel_rfl
theorem tb_callable_152 : callable Tryz.prog 152 = true := by kernel_rfl
theorem tb_callable_153 : callable Tryz.prog 153 = true := by kernel_rfl
theorem tb_callable_154 : callable Tryz.prog 154 = true := by kernel_rfl
theorem tb_callable_155 : callable Tryz.prog 155 = true := by kernel_rfl
theorem tb_callable_156 : callable Tryz.prog 156 = true := by kernel_rfl
theorem tb_callable_157 : callable Tryz.prog 157 = true := by kernel_rfl
theorem tb_callable_158 : callable Tryz.prog 158 = true := by kernel_rfl
theorem tb_callable_16 : callable Tryz.prog 16 = true := by kernel_rfl
theorem tb_callable_160 : callable Tryz.prog 160 = true := by kernel_rfl
theorem tb_callable_161 : callable Tryz.prog 161 = true := by kernel_rfl
theorem tb_callable_162 : callable Tryz.prog 162 = true := by kernel_rfl
theorem tb_callable_163 : callable Tryz.prog 163 = true := by kernel_rfl
theorem tb_callable_164 : callable Tryz.prog 164 = true := by kernel_rfl
theorem tb_callable_165 : callable Tryz.prog 165 = true := by kernel_rfl
theorem tb_callable_166 : callable Tryz.prog 166 = true := by kernel_rfl
theorem tb_callable_17 : callable Tryz.prog 17 = true := by kernel_rfl
theorem tb_callable_18 : callable Tryz.prog 18 = true := by kernel_rfl
theorem tb_callable_186 : callable Tryz.prog 186 = true := by kernel_rfl
theorem tb_callable_188 : callable Tryz.prog 188 = true := by kernel_rfl
theorem tb_callable_19 : callable Tryz.prog 19 = true := by kernel_rfl
theorem tb_callable_20 : callable Tryz.prog 20 = true := by kernel_rfl
theorem tb_callable_21 : callable Tryz.prog 21 = true := by kernel_rfl
theorem tb_callable_22 : callable Tryz.prog 22 = true := by kernel_rfl
theorem tb_callable_23 : callable Tryz.prog 23 = true := by kernel_rfl
theorem tb_callable_24 : callable Tryz.prog 24 = true := by kernel_rfl
theorem tb_callable_25 : callable Tryz.prog 25 = true := by kernel_rfl
theorem tb_callable_26 : callable Tryz.prog 26 = true := by kernel_rfl
theorem tb_callable_27 : callable Tryz.prog 27 = true := by kernel_rfl
theorem tb_callable_28 : callable Tryz.prog 28 = true := by kernel_rfl
theorem tb_callable_29 : callable Tryz.prog 29 = true := by kernel_rfl
theorem tb_callable_3 : callable Tryz.prog 3 = true := by kernel_rfl
theorem tb_callable_30 : callable Tryz.prog 30 = true := by kernel_rfl
theorem tb_callable_31 : callable Tryz.prog 31 = true := by kernel_rfl
theorem tb_callable_32 : callable Tryz.prog 32 = true := by kernel_rfl
theorem tb_callable_33 : callable Tryz.prog 33 = true := by kernel_rfl
theorem tb_callable_34 : callable Tryz.prog 34 = true := by kernel_rfl
theorem tb_callable_38 : callable Tryz.prog 38 = true := by kernel_rfl
theorem tb_callable_39 : callable Tryz.prog 39 = true := by kernel_rfl
theorem tb_callable_4 : callable Tryz.prog 4 = true := by kernel_rfl
theorem tb_callable_40 : callable Tryz.prog 40 = true := by kernel_rfl
theorem tb_callable_41 : callable Tryz.prog 41 = true := by kernel_rfl
theorem tb_callable_42 : callable Tryz.prog 42 = true := by kernel_rfl
theorem tb_callable_43 : callable Tryz.prog 43 = true := by kernel_rfl
theorem tb_callable_44 : callable Tryz.prog 44 = true := by kernel_rfl
theorem tb_callable_45 : callable Tryz.prog 45 = true := by kernel_rfl
theorem tb_callable_46 : callable Tryz.prog 46 = true := by kernel_rfl
theorem tb_callable_47 : callable Tryz.prog 47 = true := by kernel_rfl
theorem tb_callable_48 : callable Tryz.prog 48 = true := by kernel_rfl
theorem tb_callable_49 : callable Tryz.prog 49 = true := by kernel_rfl
theorem tb_callable_5 : callable Tryz.prog 5 = true := by kernel_rfl
theorem tb_callable_50 : callable Tryz.prog 50 = true := by kernel_rfl
theorem tb_callable_51 : callable Tryz.prog 51 = true := by kernel_rfl
theorem tb_callable_52 : callable Tryz.prog 52 = true := by kernel_rfl
theorem tb_callable_53 : callable Tryz.prog 53 = true := by kernel_rfl
theorem tb_callable_54 : callable Tryz.prog 54 = true := by kernel_rfl
theorem tb_callable_55 : callable Tryz.prog 55 = true := by kernel_rfl
theorem tb_callable_56 : callable Tryz.prog 56 = true := by kernel_rfl
theorem tb_callable_57 : callable Tryz.prog 57 = true := by kernel_rfl
theorem tb_callable_58 : callable Tryz.prog 58 = true := by kernel_rfl
theorem tb_callable_59 : callable Tryz.prog 59 = true := by kernel_rfl
theorem tb_callable_6 : callable Tryz.prog 6 = true := by kernel_rfl
theorem tb_callable_60 : callable Tryz.prog 60 = true := by kernel_rfl
theorem tb_callable_61 : callable Tryz.prog 61 = true := by kernel_rfl
theorem tb_callable_62 : callable Tryz.prog 62 = true := by kernel_rfl
theorem tb_callable_63 : callable Tryz.prog 63 = true := by kernel_rfl
theorem tb_callable_64 : callable Tryz.prog 64 = true := by kernel_rfl
theorem tb_callable_65 : callable Tryz.prog 65 = true := by kernel_rfl
theorem tb_callable_66 : callable Tryz.prog 66 = true := by kernel_rfl
theorem tb_callable_67 : callable Tryz.prog 67 = true := by kernel_rfl
theorem tb_callable_7 : callable Tryz.prog 7 = true := by kernel_rfl
theorem tb_callable_8 : callable Tryz.prog 8 = true := by kernel_rfl
theorem tb_callable_9 : callable Tryz.prog 9 = true := by kernel_rfl
theorem tb_callable_98 : callable Tryz.prog 98 = false := by kernel_rfl
theorem tb_callable_99 : callable Tryz.prog 99 = false := by kernel_rfl
theorem tb_cellsT_115 : cellsT Tryz.prog 115 = some 2 := by kernel_rfl
theorem tb_cellsT_137 : cellsT Tryz.prog 137 = some 3 := by kernel_rfl
theorem tb_cellsT_140 : cellsT Tryz.prog 140 = some 1 := by kernel_rfl
theorem tb_cellsT_2 : cellsT Tryz.prog 2 = some 1 := by kernel_rfl
theorem tb_cellsT_22 : cellsT Tryz.prog 22 = some 1 := by kernel_rfl
theorem tb_cellsT_23 : cellsT Tryz.prog 23 = some 1 := by kernel_rfl
theorem tb_cellsT_249 : cellsT Tryz.prog 249 = some 2 := by kernel_rfl
theorem tb_cellsT_25 : cellsT Tryz.prog 25 = some 4 := by kernel_rfl
theorem tb_cellsT_266 : cellsT Tryz.prog 266 = some 1 := by kernel_rfl
theorem tb_cellsT_29 : cellsT Tryz.prog 29 = some 1 := by kernel_rfl
theorem tb_cellsT_3 : cellsT Tryz.prog 3 = some 1 := by kernel_rfl
theorem tb_cellsT_31 : cellsT Tryz.prog 31 = some 1 := by kernel_rfl
theorem tb_cellsT_33 : cellsT Tryz.prog 33 = some 5 := by kernel_rfl
theorem tb_cellsT_4 : cellsT Tryz.prog 4 = some 1 := by kernel_rfl
theorem tb_cellsT_42 : cellsT Tryz.prog 42 = some 1 := by kernel_rfl
theorem tb_cellsT_5 : cellsT Tryz.prog 5 = some 1 := by kernel_rfl
theorem tb_cellsT_53 : cellsT Tryz.prog 53 = some 3 := by kernel_rfl
theorem tb_cellsT_54 : cellsT Tryz.prog 54 = some 1 := by kernel_rfl
theorem tb_cellsT_58 : cellsT Tryz.prog 58 = some 3 := by kernel_rfl
theorem tb_cellsT_60 : cellsT Tryz.prog 60 = some 6 := by kernel_rfl
theorem tb_cellsT_9 : cellsT Tryz.prog 9 = some 1 := by kernel_rfl
theorem tb_cellsT_98 : cellsT Tryz.prog 98 = some 2 := by kernel_rfl
theorem tb_convT_166_5 : convT Tryz.prog 166 5 = .toInt .u8 := by kernel_rfl
theorem tb_convT_242_264 : convT Tryz.prog 242 264 = .toInt .u32 := by kernel_rfl
theorem tb_convT_242_3 : convT Tryz.prog 242 3 = .toInt .i64 := by kernel_rfl
theorem tb_convT_264_5 : convT Tryz.prog 264 5 = .toInt .u8 := by kernel_rfl
theorem tb_convT_3_242 : convT Tryz.prog 3 242 = .toInt .u64 := by kernel_rfl
theorem tb_convT_3_266 : convT Tryz.prog 3 266 = .toInt .u64 := by kernel_rfl
theorem tb_convT_5_12 : convT Tryz.prog 5 12 = .toInt .u64 := by kernel_rfl
theorem tb_convT_5_166 : convT Tryz.prog 5 166 = .toInt .u64 := by kernel_rfl
theorem tb_convT_5_3 : convT Tryz.prog 5 3 = .toInt .i64 := by kernel_rfl
theorem tb_eqT_147 : eqT Tryz.prog 147 = .sl := by kernel_rfl
theorem tb_eqT_20 : eqT Tryz.prog 20 = .iface := by kernel_rfl
theorem tb_eqT_22 : eqT Tryz.prog 22 = .sl := by kernel_rfl
theorem tb_eqT_29 : eqT Tryz.prog 29 = .iface := by kernel_rfl
theorem tb_eqT_4 : eqT Tryz.prog 4 = .bool := by kernel_rfl
theorem tb_eqT_42 : eqT Tryz.prog 42 = .sl := by kernel_rfl
theorem tb_eqT_58 : eqT Tryz.prog 58 = .struct := by kernel_rfl
theorem tb_eqT_98 : eqT Tryz.prog 98 = .struct := by kernel_rfl
theorem tb_fieldAt_33_0 : fieldAt Tryz.prog 33 0 = some (0, 1, false) := by kernel_rfl
theorem tb_fieldAt_53_1 : fieldAt Tryz.prog 53 1 = some (1, 1, false) := by kernel_rfl
theorem tb_fieldOff_101_0 : fieldOff Tryz.prog 101 0 = some 0 := by kernel_rfl
theorem tb_fieldOff_101_1 : fieldOff Tryz.prog 101 1 = some 1 := by kernel_rfl
theorem tb_fieldOff_103_0 : fieldOff Tryz.prog 103 0 = some 0 := by kernel_rfl
theorem tb_fieldOff_103_1 : fieldOff Tryz.prog 103 1 = some 1 := by kernel_rfl
theorem tb_fieldOff_115_0 : fieldOff Tryz.prog 115 0 = some 0 := by kernel_rfl
theorem tb_fieldOff_115_1 : fieldOff Tryz.prog 115 1 = some 1 := by kernel_rfl
theorem tb_fieldOff_249_0 : fieldOff Tryz.prog 249 0 = some 0 := by kernel_rfl
theorem tb_fieldOff_249_1 : fieldOff Tryz.prog 249 1 = some 1 := by kernel_rfl
theorem tb_fieldOff_25_0 : fieldOff Tryz.prog 25 0 = some 0 := by kernel_rfl
theorem tb_fieldOff_25_1 : fieldOff Tryz.prog 25 1 = some 1 := by kernel_rfl
theorem tb_fieldOff_25_2 : fieldOff Tryz.prog 25 2 = some 2 := by kernel_rfl
theorem tb_fieldOff_25_3 : fieldOff Tryz.prog 25 3 = some 3 := by kernel_rfl
theorem tb_fieldOff_33_0 : fieldOff Tryz.prog 33 0 = some 0 := by kernel_rfl
theorem tb_fieldOff_33_1 : fieldOff Tryz.prog 33 1 = some 1 := by kernel_rfl
theorem tb_fieldOff_33_2 : fieldOff Tryz.prog 33 2 = some 2 := by kernel_rfl
theorem tb_fieldOff_33_3 : fieldOff Tryz.prog 33 3 = some 3 := by kernel_rfl
theorem tb_fieldOff_33_4 : fieldOff Tryz.prog 33 4 = some 4 := by kernel_rfl
theorem tb_fieldOff_53_0 : fieldOff Tryz.prog 53 0 = some 0 := by kernel_rfl
theorem tb_fieldOff_53_1 : fieldOff Tryz.prog 53 1 = some 1 := by kernel_rfl
theorem tb_fieldOff_53_2 : fieldOff Tryz.prog 53 2 = some 2 := by kernel_rfl
theorem tb_fieldOff_56_0 : fieldOff Tryz.prog 56 0 = some 0 := by kernel_rfl
theorem tb_fieldOff_56_1 : fieldOff Tryz.prog 56 1 = some 1 := by kernel_rfl
theorem tb_fieldOff_58_0 : fieldOff Tryz.prog 58 0 = some 0 := by kernel_rfl
theorem tb_fieldOff_58_1 : fieldOff Tryz.prog 58 1 = some 1 := by kernel_rfl
theorem tb_fieldOff_60_0 : fieldOff Tryz.prog 60 0 = some 0 := by kernel_rfl
theorem tb_fieldOff_60_1 : fieldOff Tryz.prog 60 1 = some 3 := by kernel_rfl
theorem tb_fieldOff_98_0 : fieldOff Tryz.prog 98 0 = some 0 := by kernel_rfl
theorem tb_fieldOff_98_1 : fieldOff Tryz.prog 98 1 = some 1 := by kernel_rfl
theorem tb_ifaceT_103 : ifaceT Tryz.prog 103 = some false := by kernel_rfl
theorem tb_ifaceT_105 : ifaceT Tryz.prog 105 = some false := by kernel_rfl
theorem tb_ifaceT_106 : ifaceT Tryz.prog 106 = some false := by kernel_rfl
theorem tb_ifaceT_107 : ifaceT Tryz.prog 107 = some false := by kernel_rfl
theorem tb_ifaceT_229 : ifaceT Tryz.prog 229 = some true := by kernel_rfl
theorem tb_ifaceT_232 : ifaceT Tryz.prog 232 = some true := by kernel_rfl
theorem tb_ifaceT_234 : ifaceT Tryz.prog 234 = some true := by kernel_rfl
theorem tb_ifaceT_31 : ifaceT Tryz.prog 31 = some false := by kernel_rfl
theorem tb_ifaceT_9 : ifaceT Tryz.prog 9 = some false := by kernel_rfl
theorem tb_indexT_147 : indexT Tryz.prog 147 = some (.sl 1) := by kernel_rfl
theorem tb_indexT_22 : indexT Tryz.prog 22 = some (.sl 2) := by kernel_rfl
theorem tb_indexT_23 : indexT Tryz.prog 23 = some (.sl 2) := by kernel_rfl
theorem tb_indexT_235 : indexT Tryz.prog 235 = some (.sl 1) := by kernel_rfl
theorem tb_indexT_247 : indexT Tryz.prog 247 = some (.arr 256 1 false) := by kernel_rfl
theorem tb_indexT_250 : indexT Tryz.prog 250 = some (.arr 16 2 true) := by kernel_rfl
theorem tb_indexT_36 : indexT Tryz.prog 36 = some (.sl 4) := by kernel_rfl
theorem tb_indexT_42 : indexT Tryz.prog 42 = some (.sl 6) := by kernel_rfl
theorem tb_indexT_48 : indexT Tryz.prog 48 = some (.sl 1) := by kernel_rfl
theorem tb_indexT_82 : indexT Tryz.prog 82 = some (.sl 1) := by kernel_rfl
theorem tb_indexT_9 : indexT Tryz.prog 9 = some (.str) := by kernel_rfl
theorem tb_isAggT_115 : isAggT Tryz.prog 115 = some true := by kernel_rfl
theorem tb_isAggT_137 : isAggT Tryz.prog 137 = some true := by kernel_rfl
theorem tb_isAggT_140 : isAggT Tryz.prog 140 = some false := by kernel_rfl
theorem tb_isAggT_2 : isAggT Tryz.prog 2 = some false := by kernel_rfl
theorem tb_isAggT_22 : isAggT Tryz.prog 22 = some false := by kernel_rfl
theorem tb_isAggT_23 : isAggT Tryz.prog 23 = some false := by kernel_rfl
theorem tb_isAggT_249 : isAggT Tryz.prog 249 = some true := by kernel_rfl
theorem tb_isAggT_25 : isAggT Tryz.prog 25 = some true := by kernel_rfl
theorem tb_isAggT_266 : isAggT Tryz.prog 266 = some false := by kernel_rfl
theorem tb_isAggT_29 : isAggT Tryz.prog 29 = some false := by kernel_rfl
theorem tb_isAggT_3 : isAggT Tryz.prog 3 = some false := by kernel_rfl
theorem tb_isAggT_31 : isAggT Tryz.prog 31 = some false := by kernel_rfl
theorem tb_isAggT_33 : isAggT Tryz.prog 33 = some true := by kernel_rfl
theorem tb_isAggT_4 : isAggT Tryz.prog 4 = some false := by kernel_rfl
theorem tb_isAggT_42 : isAggT Tryz.prog 42 = some false := by kernel_rfl
theorem tb_isAggT_5 : isAggT Tryz.prog 5 = some false := by kernel_rfl
theorem tb_isAggT_53 : isAggT Tryz.prog 53 = some true := by kernel_rfl
theorem tb_isAggT_54 : isAggT Tryz.prog 54 = some false := by kernel_rfl
theorem tb_isAggT_58 : isAggT Tryz.prog 58 = some true := by kernel_rfl
theorem tb_isAggT_60 : isAggT Tryz.prog 60 = some true := by kernel_rfl
theorem tb_isAggT_9 : isAggT Tryz.prog 9 = some false := by kernel_rfl
theorem tb_isAggT_98 : isAggT Tryz.prog 98 = some true := by kernel_rfl
theorem tb_lenT_147 : lenT Tryz.prog 147 = .sl := by kernel_rfl
theorem tb_lenT_22 : lenT Tryz.prog 22 = .sl := by kernel_rfl
theorem tb_lenT_23 : lenT Tryz.prog 23 = .sl := by kernel_rfl
theorem tb_lenT_235 : lenT Tryz.prog 235 = .sl := by kernel_rfl
theorem tb_lenT_36 : lenT Tryz.prog 36 = .sl := by kernel_rfl
theorem tb_lenT_42 : lenT Tryz.prog 42 = .sl := by kernel_rfl
theorem tb_lenT_48 : lenT Tryz.prog 48 = .sl := by kernel_rfl
theorem tb_lenT_82 : lenT Tryz.prog 82 = .sl := by kernel_rfl
theorem tb_lenT_9 : lenT Tryz.prog 9 = .str := by kernel_rfl
theorem tb_res_10 : Tryz.f10.results.toList = [.tmp 2] := by kernel_rfl
theorem tb_res_101 : Tryz.f101.results.toList = [.tmp 8] := by kernel_rfl
theorem tb_res_102 : Tryz.f102.results.toList = [.tmp 4] := by kernel_rfl
theorem tb_res_103 : Tryz.f103.results.toList = [.tmp 2] := by kernel_rfl
theorem tb_res_104 : Tryz.f104.results.toList = [.tmp 2] := by kernel_rfl
theorem tb_res_105 : Tryz.f105.results.toList = [.tmp 2] := by kernel_rfl
theorem tb_res_106 : Tryz.f106.results.toList = [.tmp 4] := by kernel_rfl
theorem tb_res_107 : Tryz.f107.results.toList = [.cell 2 33] := by kernel_rfl
theorem tb_res_108 : Tryz.f108.results.toList = [.tmp 2] := by kernel_rfl
theorem tb_res_109 : Tryz.f109.results.toList = [.tmp 6, .tmp 7] := by kernel_rfl
theorem tb_res_11 : Tryz.f11.results.toList = [.tmp 2] := by kernel_rfl
theorem tb_res_110 : Tryz.f110.results.toList = [.tmp 4] := by kernel_rfl
theorem tb_res_111 : Tryz.f111.results.toList = [.tmp 6] := by kernel_rfl
theorem tb_res_112 : Tryz.f112.results.toList = [.tmp 4] := by kernel_rfl
theorem tb_res_113 : Tryz.f113.results.toList = [.tmp 4] := by kernel_rfl
theorem tb_res_114 : Tryz.f114.results.toList = [.tmp 6] := by kernel_rfl
theorem tb_res_115 : Tryz.f115.results.toList = [.tmp 2] := by kernel_rfl
theorem tb_res_116 : Tryz.f116.results.toList = [.tmp 4] := by kernel_rfl
theorem tb_res_117 : Tryz.f117.results.toList = [.tmp 4] := by kernel_rfl
theorem tb_res_118 : Tryz.f118.results.toList = [.tmp 2] := by kernel_rfl
theorem tb_res_119 : Tryz.f119.results.toList = [.tmp 2] := by kernel_rfl
theorem tb_res_120 : Tryz.f120.results.toList = [.tmp 4] := by kernel_rfl
theorem tb_res_121 : Tryz.f121.results.toList = [.tmp 4] := by kernel_rfl
theorem tb_res_122 : Tryz.f122.results.toList = [.tmp 4] := by kernel_rfl
theorem tb_res_123 : Tryz.f123.results.toList = [] := by kernel_rfl
theorem tb_res_128 : Tryz.f128.results.toList = [.tmp 2] := by kernel_rfl
theorem tb_res_129 : Tryz.f129.results.toList = [.tmp 2] := by kernel_rfl
theorem tb_res_13 : Tryz.f13.results.toList = [.tmp 0] := by kernel_rfl
theorem tb_res_130 : Tryz.f130.results.toList = [.tmp 4] := by kernel_rfl
theorem tb_res_131 : Tryz.f131.results.toList = [] := by kernel_rfl
theorem tb_res_132 : Tryz.f132.results.toList = [.tmp 2] := by kernel_rfl
theorem tb_res_133 : Tryz.f133.results.toList = [.tmp 2] := by kernel_rfl
theorem tb_res_134 : Tryz.f134.results.toList = [.tmp 2] := by kernel_rfl
theorem tb_res_135 : Tryz.f135.results.toList = [.tmp 2] := by kernel_rfl
theorem tb_res_138 : Tryz.f138.results.toList = [.tmp 2] := by kernel_rfl
theorem tb_res_139 : Tryz.f139.results.toList = [] := by kernel_rfl
theorem tb_res_14 : Tryz.f14.results.toList = [.tmp 4] := by kernel_rfl
theorem tb_res_140 : Tryz.f140.results.toList = [] := by kernel_rfl
theorem tb_res_141 : Tryz.f141.results.toList = [.tmp 2] := by kernel_rfl
theorem tb_res_142 : Tryz.f142.results.toList = [.tmp 4] := by kernel_rfl
theorem tb_res_143 : Tryz.f143.results.toList = [] := by kernel_rfl
theorem tb_res_144 : Tryz.f144.results.toList = [.tmp 2] := by kernel_rfl
theorem tb_res_146 : Tryz.f146.results.toList = [] := by kernel_rfl
theorem tb_res_147 : Tryz.f147.results.toList = [.tmp 6] := by kernel_rfl
theorem tb_res_148 : Tryz.f148.results.toList = [] := by kernel_rfl
theorem tb_res_149 : Tryz.f149.results.toList = [] := by kernel_rfl
theorem tb_res_15 : Tryz.f15.results.toList = [.tmp 2] := by kernel_rfl
theorem tb_res_150 : Tryz.f150.results.toList = [] := by kernel_rfl
theorem tb_res_151 : Tryz.f151.results.toList = [.tmp 6, .tmp 7] := by kernel_rfl
theorem tb_res_152 : Tryz.f152.results.toList = [] := by kernel_rfl
theorem tb_res_153 : Tryz.f153.results.toList = [.tmp 6] := by kernel_rfl
theorem tb_res_154 : Tryz.f154.results.toList = [.tmp 4] := by kernel_rfl
theorem tb_res_155 : Tryz.f155.results.toList = [.tmp 8] := by kernel_rfl
theorem tb_res_156 : Tryz.f156.results.toList = [.tmp 8, .tmp 9] := by kernel_rfl
theorem tb_res_157 : Tryz.f157.results.toList = [.tmp 2] := by kernel_rfl
theorem tb_res_158 : Tryz.f158.results.toList = [.tmp 2] := by kernel_rfl
theorem tb_res_16 : Tryz.f16.results.toList = [.cell 2 33] := by kernel_rfl
theorem tb_res_160 : Tryz.f160.results.toList = [] := by kernel_rfl
theorem tb_res_161 : Tryz.f161.results.toList = [] := by kernel_rfl
theorem tb_res_162 : Tryz.f162.results.toList = [.tmp 2] := by kernel_rfl
theorem tb_res_163 : Tryz.f163.results.toList = [.tmp 2] := by kernel_rfl
theorem tb_res_164 : Tryz.f164.results.toList = [.tmp 6] := by kernel_rfl
theorem tb_res_165 : Tryz.f165.results.toList = [.tmp 10] := by kernel_rfl
theorem tb_res_166 : Tryz.f166.results.toList = [.tmp 8, .tmp 9] := by kernel_rfl
theorem tb_res_17 : Tryz.f17.results.toList = [.tmp 2] := by kernel_rfl
theorem tb_res_18 : Tryz.f18.results.toList = [.tmp 2] := by kernel_rfl
theorem tb_res_186 : Tryz.f186.results.toList = [.tmp 2] := by kernel_rfl
theorem tb_res_188 : Tryz.f188.results.toList = [.tmp 2] := by kernel_rfl
theorem tb_res_19 : Tryz.f19.results.toList = [.cell 2 33] := by kernel_rfl
theorem tb_res_20 : Tryz.f20.results.toList = [.tmp 4] := by kernel_rfl
theorem tb_res_21 : Tryz.f21.results.toList = [.tmp 2, .tmp 3] := by kernel_rfl
theorem tb_res_22 : Tryz.f22.results.toList = [.tmp 2, .cell 3 33] := by kernel_rfl
theorem tb_res_23 : Tryz.f23.results.toList = [.tmp 4] := by kernel_rfl
theorem tb_res_24 : Tryz.f24.results.toList = [.tmp 2] := by kernel_rfl
theorem tb_res_25 : Tryz.f25.results.toList = [.tmp 4] := by kernel_rfl
theorem tb_res_26 : Tryz.f26.results.toList = [.tmp 4] := by kernel_rfl
theorem tb_res_27 : Tryz.f27.results.toList = [.tmp 2] := by kernel_rfl
theorem tb_res_28 : Tryz.f28.results.toList = [.tmp 2] := by kernel_rfl
theorem tb_res_29 : Tryz.f29.results.toList = [.tmp 4] := by kernel_rfl
theorem tb_res_3 : Tryz.f3.results.toList = [.tmp 2] := by kernel_rfl
theorem tb_res_30 : Tryz.f30.results.toList = [.tmp 4] := by kernel_rfl
theorem tb_res_31 : Tryz.f31.results.toList = [.tmp 4] := by kernel_rfl
theorem tb_res_32 : Tryz.f32.results.toList = [.tmp 4] := by kernel_rfl
theorem tb_res_33 : Tryz.f33.results.toList = [.tmp 2] := by kernel_rfl
theorem tb_res_34 : Tryz.f34.results.toList = [.tmp 2] := by kernel_rfl
theorem tb_res_38 : Tryz.f38.results.toList = [.tmp 4] := by kernel_rfl
theorem tb_res_39 : Tryz.f39.results.toList = [.tmp 4] := by kernel_rfl
theorem tb_res_4 : Tryz.f4.results.toList = [.tmp 2] := by kernel_rfl
theorem tb_res_40 : Tryz.f40.results.toList = [.tmp 2] := by kernel_rfl
theorem tb_res_41 : Tryz.f41.results.toList = [.tmp 2] := by kernel_rfl
theorem tb_res_42 : Tryz.f42.results.toList = [.tmp 2] := by kernel_rfl
theorem tb_res_43 : Tryz.f43.results.toList = [.tmp 2] := by kernel_rfl
theorem tb_res_44 : Tryz.f44.results.toList = [.tmp 2] := by kernel_rfl
theorem tb_res_45 : Tryz.f45.results.toList = [.cell 2 33] := by kernel_rfl
theorem tb_res_46 : Tryz.f46.results.toList = [.tmp 2] := by kernel_rfl
theorem tb_res_47 : Tryz.f47.results.toList = [.tmp 2] := by kernel_rfl
theorem tb_res_48 : Tryz.f48.results.toList = [.tmp 4] := by kernel_rfl
theorem tb_res_49 : Tryz.f49.results.toList = [.cell 4 33] := by kernel_rfl
theorem tb_res_5 : Tryz.f5.results.toList = [.tmp 2] := by kernel_rfl
theorem tb_res_50 : Tryz.f50.results.toList = [.tmp 2] := by kernel_rfl
theorem tb_res_51 : Tryz.f51.results.toList = [.tmp 2] := by kernel_rfl
theorem tb_res_52 : Tryz.f52.results.toList = [.cell 2 53] := by kernel_rfl
theorem tb_res_53 : Tryz.f53.results.toList = [.tmp 2] := by kernel_rfl
theorem tb_res_54 : Tryz.f54.results.toList = [.tmp 4] := by kernel_rfl
theorem tb_res_55 : Tryz.f55.results.toList = [.tmp 4] := by kernel_rfl
theorem tb_res_56 : Tryz.f56.results.toList = [.tmp 4] := by kernel_rfl
theorem tb_res_57 : Tryz.f57.results.toList = [.tmp 2] := by kernel_rfl
theorem tb_res_58 : Tryz.f58.results.toList = [.tmp 4] := by kernel_rfl
theorem tb_res_59 : Tryz.f59.results.toList = [.tmp 4] := by kernel_rfl
theorem tb_res_6 : Tryz.f6.results.toList = [.tmp 4] := by kernel_rfl
theorem tb_res_60 : Tryz.f60.results.toList = [.tmp 2] := by kernel_rfl
theorem tb_res_61 : Tryz.f61.results.toList = [.tmp 4] := by kernel_rfl
theorem tb_res_62 : Tryz.f62.results.toList = [.tmp 2] := by kernel_rfl
theorem tb_res_63 : Tryz.f63.results.toList = [.tmp 4] := by kernel_rfl
theorem tb_res_64 : Tryz.f64.results.toList = [] := by kernel_rfl
theorem tb_res_65 : Tryz.f65.results.toList = [.tmp 4] := by kernel_rfl
theorem tb_res_66 : Tryz.f66.results.toList = [.cell 2 53] := by kernel_rfl
theorem tb_res_67 : Tryz.f67.results.toList = [.tmp 4] := by kernel_rfl
theorem tb_res_7 : Tryz.f7.results.toList = [.tmp 4] := by kernel_rfl
theorem tb_res_8 : Tryz.f8.results.toList = [.tmp 4] := by kernel_rfl
theorem tb_res_9 : Tryz.f9.results.toList = [.tmp 4] := by kernel_rfl
theorem tb_zeroT_101 : zeroT Tryz.prog 101 = some (.agg #[.int .i64 0, .nilIface]) := by kernel_rfl
theorem tb_zeroT_103 : zeroT Tryz.prog 103 = some (.agg #[.int .i64 0, .nilIface]) := by kernel_rfl
theorem tb_zeroT_115 : zeroT Tryz.prog 115 = some (.agg #[.string ByteArray.empty, .string ByteArray.empty]) := by kernel_rfl
theorem tb_zeroT_137 : zeroT Tryz.prog 137 = some (.agg #[.pointer none, .pointer none, .int .u64 0]) := by kernel_rfl
theorem tb_zeroT_249 : zeroT Tryz.prog 249 = some (.agg #[.int .u8 0, .int .u8 0]) := by kernel_rfl
theorem tb_zeroT_25 : zeroT Tryz.prog 25 = some (.agg #[.string ByteArray.empty, .slice none 0 0, .slice none 0 0, .int .i64 0]) := by kernel_rfl
theorem tb_zeroT_266 : zeroT Tryz.prog 266 = some (.int .u64 0) := by kernel_rfl
theorem tb_zeroT_3 : zeroT Tryz.prog 3 = some (.int .i64 0) := by kernel_rfl
theorem tb_zeroT_31 : zeroT Tryz.prog 31 = some (.int .i64 0) := by kernel_rfl
theorem tb_zeroT_33 : zeroT Tryz.prog 33 = some (.agg #[.int .i64 0, .int .i64 0, .int .i64 0, .bool false, .bool false]) := by kernel_rfl
theorem tb_zeroT_53 : zeroT Tryz.prog 53 = some (.agg #[.string ByteArray.empty, .slice none 0 0, .string ByteArray.empty]) := by kernel_rfl
theorem tb_zeroT_60 : zeroT Tryz.prog 60 = some (.agg #[.string ByteArray.empty, .slice none 0 0, .string ByteArray.empty, .int .i64 0, .int .u8 0, .int .i64 0]) := by kernel_rfl
theorem tb_zeroT_98 : zeroT Tryz.prog 98 = some (.agg #[.string ByteArray.empty, .int .i64 0]) := by kernel_rfl
theorem eqAgg_of {P : Program} {t : TypeId} {x y : Value} {r : Option Bool} (h : P.eqGuardType P.depth t = false) (hd : eqDeep P 8 t x y = r) : eqAgg P t x y = r := by unfold eqAgg; rw [h]; exact hd
theorem eqDeep_struct {P : Program} {n : Nat} {t : TypeId} {fs : Array Field} {xs ys : Array Value} {r : Option Bool} (hu : P.underlying t = some (.struct fs)) (hh : P.stoodInHeld t = false) (hf : eqFs P (eqDeep P n) xs ys fs.toList = r) : eqDeep P (n + 1) t (.agg xs) (.agg ys) = r := by unfold eqDeep; rw [hu]; show (if P.stoodInHeld t = true then _ else _) = _; rw [if_neg (by rw [hh]; decide)]; exact hf
theorem eqDeep_int {P : Program} {n : Nat} {t : TypeId} {k k' : IntKind} {a b : Int} (hu : P.underlying t = some (.int k')) : eqDeep P (n + 1) t (.int k a) (.int k b) = some (decide (a = b)) := by unfold eqDeep; rw [hu]; exact if_pos rfl
theorem eqDeep_string {P : Program} {n : Nat} {t : TypeId} {a b : ByteArray} (hu : P.underlying t = some .string) : eqDeep P (n + 1) t (.string a) (.string b) = some (decide (a.toList = b.toList)) := by unfold eqDeep; rw [hu]; show some (a.toList == b.toList) = _; by_cases h : a.toList = b.toList <;> simp [h]
theorem eqFs_nil {P : Program} {r : TypeId → Value → Value → Option Bool} {xs ys : Array Value} : eqFs P r xs ys [] = some (decide True) := rfl
theorem eqFs_cons {P : Program} {r : TypeId → Value → Value → Option Bool} {xs ys : Array Value} {f : Field} {fs : List Field} {a b : Value} {c d : Prop} [Decidable c] [Decidable d] (hn : f.name ≠ "_") (ha : partP P f.type xs f.offset = some a) (hb : partP P f.type ys f.offset = some b)
    (hr : r f.type a b = some (decide c)) (ht : eqFs P r xs ys fs = some (decide d)) : eqFs P r xs ys (f :: fs) = some (decide (c ∧ d)) := by
  unfold eqFs
  rw [if_neg hn, ha, hb]
  show (match r f.type a b with | some true => _ | some false => _ | none => _) = _
  rw [hr]
  by_cases h : c
  · rw [decide_eq_true h, ht]; simp [h]
  · rw [decide_eq_false h]; simp [h]
theorem eqPart_leaf {P : Program} {t : TypeId} {cs : Array Value} {o n : Nat} {v : Value} (h : isAggT P t = some false) (hc : cellsT P t = some n) (hv : cs[o]? = some v) : partP P t cs o = some v := by unfold partP; rw [h, hc]; exact hv
theorem eqPart_agg {P : Program} {t : TypeId} {cs : Array Value} {o n : Nat} {x : Array Value} (h : isAggT P t = some true) (hc : cellsT P t = some n) (hv : cs.extract o (o + n) = x) : partP P t cs o = some (.agg x) := by unfold partP; rw [h, hc, ← hv]
theorem tb_eqU_58 : Tryz.prog.underlying 58 = some (.struct #[⟨"Time", 2, 0, false, "", "", 0⟩, ⟨"Value", 56, 1, false, "", "", 8⟩]) := by kernel_rfl
theorem tb_eqH_58 : Tryz.prog.stoodInHeld 58 = false := by kernel_rfl
theorem tb_eqA_2 : isAggT Tryz.prog 2 = some false := by kernel_rfl
theorem tb_eqC_2 : cellsT Tryz.prog 2 = some 1 := by kernel_rfl
theorem tb_eqU_2 : Tryz.prog.underlying 2 = some (.int .i64) := by kernel_rfl
theorem tb_eqA_56 : isAggT Tryz.prog 56 = some true := by kernel_rfl
theorem tb_eqC_56 : cellsT Tryz.prog 56 = some 2 := by kernel_rfl
theorem tb_eqU_56 : Tryz.prog.underlying 56 = some (.struct #[⟨"Kind", 54, 0, false, "", "", 0⟩, ⟨"N", 2, 1, false, "", "", 8⟩]) := by kernel_rfl
theorem tb_eqH_56 : Tryz.prog.stoodInHeld 56 = false := by kernel_rfl
theorem tb_eqA_54 : isAggT Tryz.prog 54 = some false := by kernel_rfl
theorem tb_eqC_54 : cellsT Tryz.prog 54 = some 1 := by kernel_rfl
theorem tb_eqU_54 : Tryz.prog.underlying 54 = some (.int .u8) := by kernel_rfl
theorem tb_eqG_58 : Tryz.prog.eqGuardType Tryz.prog.depth 58 = false := by kernel_rfl
theorem tb_eqU_98 : Tryz.prog.underlying 98 = some (.struct #[⟨"Key", 9, 0, false, "", "", 0⟩, ⟨"N", 2, 1, false, "", "", 16⟩]) := by kernel_rfl
theorem tb_eqH_98 : Tryz.prog.stoodInHeld 98 = false := by kernel_rfl
theorem tb_eqA_9 : isAggT Tryz.prog 9 = some false := by kernel_rfl
theorem tb_eqC_9 : cellsT Tryz.prog 9 = some 1 := by kernel_rfl
theorem tb_eqU_9 : Tryz.prog.underlying 9 = some .string := by kernel_rfl
theorem tb_eqG_98 : Tryz.prog.eqGuardType Tryz.prog.depth 98 = false := by kernel_rfl
theorem tb_eqS_58 (a0 b0 : Int) (a1 b1 : Int) (a2 b2 : Int) : (eqAgg Tryz.prog 58 (.agg #[.int .i64 a0, .int .u8 a1, .int .i64 a2]) (.agg #[.int .i64 b0, .int .u8 b1, .int .i64 b2])) = some (decide (a0 = b0 ∧ a1 = b1 ∧ a2 = b2)) := (eqAgg_of tb_eqG_58 (eqDeep_struct tb_eqU_58 tb_eqH_58 (eqFs_cons (by decide) (eqPart_leaf tb_eqA_2 tb_eqC_2 rfl) (eqPart_leaf tb_eqA_2 tb_eqC_2 rfl) (eqDeep_int tb_eqU_2) (eqFs_cons (by decide) (eqPart_agg tb_eqA_56 tb_eqC_56 rfl) (eqPart_agg tb_eqA_56 tb_eqC_56 rfl) (eqDeep_struct tb_eqU_56 tb_eqH_56 (eqFs_cons (by decide) (eqPart_leaf tb_eqA_54 tb_eqC_54 rfl) (eqPart_leaf tb_eqA_54 tb_eqC_54 rfl) (eqDeep_int tb_eqU_54) (eqFs_cons (by decide) (eqPart_leaf tb_eqA_2 tb_eqC_2 rfl) (eqPart_leaf tb_eqA_2 tb_eqC_2 rfl) (eqDeep_int tb_eqU_2) eqFs_nil))) eqFs_nil)))).trans (by simp)
theorem tb_eqS_98 (a0 b0 : ByteArray) (a1 b1 : Int) : (eqAgg Tryz.prog 98 (.agg #[.string a0, .int .i64 a1]) (.agg #[.string b0, .int .i64 b1])) = some (decide (a0.toList = b0.toList ∧ a1 = b1)) := (eqAgg_of tb_eqG_98 (eqDeep_struct tb_eqU_98 tb_eqH_98 (eqFs_cons (by decide) (eqPart_leaf tb_eqA_9 tb_eqC_9 rfl) (eqPart_leaf tb_eqA_9 tb_eqC_9 rfl) (eqDeep_string tb_eqU_9) (eqFs_cons (by decide) (eqPart_leaf tb_eqA_2 tb_eqC_2 rfl) (eqPart_leaf tb_eqA_2 tb_eqC_2 rfl) (eqDeep_int tb_eqU_2) eqFs_nil)))).trans (by simp)
/- all facts that one function's walk wants. -/
abbrev tf3 := (And.intro (And.intro (And.intro @tb_res_3 @tb_zeroT_25) (And.intro @tb_callable_13 @tb_isAggT_25)) (And.intro (And.intro @tb_cellsT_25 @tb_callable_15) (And.intro @tb_callable_16 @tb_callable_14)))
abbrev tf4 := (And.intro (And.intro @tb_res_4 (And.intro @tb_callable_17 @tb_callable_13)) (And.intro (And.intro @tb_callable_18 @tb_callable_19) (And.intro @tb_callable_14 @tb_callable_20)))
abbrev tf5 := (And.intro (And.intro (And.intro @tb_res_5 @tb_callable_17) (And.intro @tb_callable_21 (And.intro @tb_callable_22 @tb_zeroT_33))) (And.intro (And.intro @tb_isAggT_33 (And.intro @tb_cellsT_33 @tb_callable_13)) (And.intro @tb_callable_14 (And.intro @tb_callable_23 @tb_callable_20))))
abbrev tf6 := (And.intro (And.intro (And.intro (And.intro @tb_res_6 @tb_callable_21) (And.intro @tb_lenT_36 (And.intro @tb_indexT_36 @tb_fieldOff_25_2))) (And.intro (And.intro @tb_isAggT_23 (And.intro @tb_cellsT_23 @tb_lenT_23)) (And.intro @tb_eqT_29 (And.intro @tb_lenT_42 @tb_callable_13)))) (And.intro (And.intro (And.intro @tb_callable_19 @tb_fieldAt_33_0) (And.intro @tb_eqT_4 (And.intro @tb_bsT_36_0 @tb_lenT_48))) (And.intro (And.intro @tb_indexT_48 (And.intro @tb_isAggT_3 @tb_cellsT_3)) (And.intro @tb_isAggT_25 (And.intro @tb_cellsT_25 @tb_callable_23)))))
abbrev tf7 := (And.intro (And.intro (And.intro @tb_res_7 (And.intro @tb_callable_24 @tb_lenT_42)) (And.intro (And.intro @tb_indexT_42 @tb_isAggT_60) (And.intro @tb_cellsT_60 @tb_callable_25))) (And.intro (And.intro (And.intro @tb_callable_26 @tb_callable_13) (And.intro @tb_callable_27 @tb_callable_28)) (And.intro (And.intro @tb_callable_23 @tb_callable_29) (And.intro @tb_callable_30 @tb_callable_31))))
abbrev tf8 := (And.intro (And.intro (And.intro @tb_res_8 @tb_callable_21) (And.intro @tb_bsT_36_0 (And.intro @tb_eqT_29 @tb_callable_13))) (And.intro (And.intro @tb_callable_19 @tb_fieldAt_33_0) (And.intro @tb_lenT_36 (And.intro @tb_callable_29 @tb_callable_23))))
abbrev tf9 := (And.intro (And.intro (And.intro @tb_res_9 @tb_callable_27) (And.intro @tb_lenT_42 (And.intro @tb_indexT_42 @tb_isAggT_60))) (And.intro (And.intro @tb_cellsT_60 (And.intro @tb_callable_25 @tb_callable_13)) (And.intro @tb_callable_23 (And.intro @tb_callable_29 @tb_eqT_4))))
abbrev tf10 := (And.intro (And.intro @tb_res_10 (And.intro @tb_callable_24 @tb_callable_13)) (And.intro (And.intro @tb_callable_33 @tb_callable_34) (And.intro @tb_callable_32 @tb_callable_31)))
abbrev tf11 := (And.intro (And.intro (And.intro @tb_res_11 (And.intro @tb_callable_21 @tb_eqT_29)) (And.intro (And.intro @tb_callable_13 @tb_lenT_42) (And.intro @tb_callable_19 @tb_fieldAt_33_0))) (And.intro (And.intro (And.intro @tb_callable_33 @tb_lenT_36) (And.intro @tb_indexT_36 @tb_fieldOff_25_2)) (And.intro (And.intro @tb_isAggT_23 @tb_cellsT_23) (And.intro @tb_lenT_23 @tb_callable_23))))
abbrev tf13 := (And.intro (And.intro (And.intro (And.intro @tb_res_13 @tb_buildT_98) (And.intro @tb_bsT_23_1 @tb_buildT_25)) (And.intro (And.intro @tb_bsT_36_1 @tb_callable_21) (And.intro @tb_eqT_29 (And.intro @tb_lenT_42 @tb_indexT_42)))) (And.intro (And.intro (And.intro @tb_fieldOff_60_1 @tb_isAggT_58) (And.intro @tb_cellsT_58 @tb_buildT_56)) (And.intro (And.intro @tb_buildT_58 @tb_eqT_58) (And.intro @tb_eqS_58 (And.intro @tb_callable_15 @tb_callable_38)))))
abbrev tf14 := (And.intro (And.intro (And.intro (And.intro @tb_res_14 (And.intro @tb_zeroT_33 @tb_fieldOff_33_0)) (And.intro @tb_isAggT_31 (And.intro @tb_cellsT_31 @tb_eqT_29))) (And.intro (And.intro @tb_zeroT_31 (And.intro @tb_zeroT_101 @tb_zeroT_103)) (And.intro @tb_ifaceT_105 (And.intro @tb_callable_39 @tb_ifaceT_106)))) (And.intro (And.intro (And.intro @tb_fieldOff_33_3 (And.intro @tb_isAggT_4 @tb_cellsT_4)) (And.intro @tb_eqT_4 (And.intro @tb_ifaceT_107 @tb_fieldOff_33_4))) (And.intro (And.intro @tb_fieldOff_101_0 (And.intro @tb_isAggT_3 @tb_cellsT_3)) (And.intro @tb_fieldOff_33_1 (And.intro @tb_fieldOff_103_0 @tb_fieldOff_33_2)))))
abbrev tf15 := (And.intro (And.intro (And.intro (And.intro @tb_res_15 @tb_zeroT_25) (And.intro @tb_fieldOff_25_0 @tb_isAggT_9)) (And.intro (And.intro @tb_cellsT_9 @tb_callable_40) (And.intro @tb_eqT_29 (And.intro @tb_callable_41 @tb_fieldOff_25_1)))) (And.intro (And.intro (And.intro @tb_isAggT_22 @tb_cellsT_22) (And.intro @tb_callable_42 (And.intro @tb_fieldOff_25_2 @tb_isAggT_23))) (And.intro (And.intro @tb_cellsT_23 @tb_callable_43) (And.intro @tb_fieldOff_25_3 (And.intro @tb_isAggT_2 @tb_cellsT_2)))))
abbrev tf16 := (And.intro (And.intro (And.intro (And.intro @tb_res_16 @tb_isAggT_33) (And.intro @tb_cellsT_33 (And.intro @tb_zeroT_25 @tb_zeroT_33))) (And.intro (And.intro @tb_fieldOff_25_0 (And.intro @tb_isAggT_9 @tb_cellsT_9)) (And.intro @tb_callable_44 (And.intro @tb_callable_45 @tb_fieldOff_25_1)))) (And.intro (And.intro (And.intro @tb_isAggT_22 @tb_cellsT_22) (And.intro @tb_callable_46 (And.intro @tb_fieldOff_25_2 @tb_isAggT_23))) (And.intro (And.intro @tb_cellsT_23 (And.intro @tb_callable_47 @tb_fieldOff_25_3)) (And.intro @tb_isAggT_2 (And.intro @tb_cellsT_2 @tb_buildT_33)))))
abbrev tf17 := (And.intro (And.intro (And.intro (And.intro @tb_res_17 (And.intro @tb_lenT_36 @tb_indexT_36)) (And.intro @tb_isAggT_25 (And.intro @tb_cellsT_25 @tb_zeroT_25))) (And.intro (And.intro @tb_bsT_22_0 (And.intro @tb_fieldOff_25_1 @tb_isAggT_22)) (And.intro @tb_cellsT_22 (And.intro @tb_buildT_115 @tb_bsT_22_1)))) (And.intro (And.intro (And.intro @tb_lenT_22 (And.intro @tb_indexT_22 @tb_bsT_23_0)) (And.intro @tb_fieldOff_25_2 (And.intro @tb_isAggT_23 @tb_cellsT_23))) (And.intro (And.intro @tb_buildT_98 (And.intro @tb_bsT_23_1 @tb_lenT_23)) (And.intro @tb_indexT_23 (And.intro @tb_bsT_36_1 @tb_buildT_25)))))
abbrev tf18 := (And.intro (And.intro (And.intro @tb_res_18 @tb_lenT_36) (And.intro @tb_callable_41 (And.intro @tb_indexT_36 @tb_isAggT_25))) (And.intro (And.intro @tb_cellsT_25 @tb_zeroT_25) (And.intro @tb_callable_15 (And.intro @tb_eqT_29 @tb_callable_48))))
abbrev tf19 := (And.intro (And.intro (And.intro @tb_res_19 (And.intro @tb_isAggT_33 @tb_cellsT_33)) (And.intro (And.intro @tb_zeroT_33 @tb_lenT_36) (And.intro @tb_callable_45 @tb_indexT_36))) (And.intro (And.intro (And.intro @tb_isAggT_25 @tb_cellsT_25) (And.intro @tb_callable_16 @tb_fieldOff_33_0)) (And.intro (And.intro @tb_isAggT_31 @tb_cellsT_31) (And.intro @tb_callable_49 @tb_buildT_33))))
abbrev tf20 := (And.intro (And.intro (And.intro (And.intro @tb_res_20 @tb_callable_32) (And.intro @tb_lenT_36 @tb_indexT_36)) (And.intro (And.intro @tb_fieldOff_25_0 @tb_isAggT_9) (And.intro @tb_cellsT_9 (And.intro @tb_fieldOff_25_1 @tb_isAggT_22)))) (And.intro (And.intro (And.intro @tb_cellsT_22 @tb_lenT_22) (And.intro @tb_fieldOff_25_2 (And.intro @tb_isAggT_23 @tb_cellsT_23))) (And.intro (And.intro @tb_lenT_23 @tb_indexT_22) (And.intro @tb_fieldOff_115_0 (And.intro @tb_indexT_23 @tb_fieldOff_98_0)))))
abbrev tf21 := (And.intro (And.intro (And.intro (And.intro (And.intro @tb_res_21 @tb_callable_18) (And.intro @tb_eqT_29 @tb_lenT_36)) (And.intro (And.intro @tb_indexT_36 @tb_isAggT_25) (And.intro @tb_cellsT_25 @tb_zeroT_25))) (And.intro (And.intro (And.intro @tb_fieldOff_25_1 @tb_isAggT_22) (And.intro @tb_cellsT_22 @tb_callable_50)) (And.intro (And.intro @tb_fieldOff_25_2 @tb_isAggT_23) (And.intro @tb_cellsT_23 (And.intro @tb_lenT_23 @tb_indexT_23))))) (And.intro (And.intro (And.intro (And.intro @tb_isAggT_98 @tb_cellsT_98) (And.intro @tb_zeroT_98 @tb_fieldOff_25_0)) (And.intro (And.intro @tb_isAggT_9 @tb_cellsT_9) (And.intro @tb_fieldOff_98_0 @tb_buildT_53))) (And.intro (And.intro (And.intro @tb_fieldOff_25_3 @tb_isAggT_2) (And.intro @tb_cellsT_2 @tb_fieldOff_98_1)) (And.intro (And.intro @tb_buildT_56 @tb_buildT_58) (And.intro @tb_buildT_60 (And.intro @tb_bsT_42_1 @tb_callable_27))))))
abbrev tf22 := (And.intro (And.intro (And.intro (And.intro (And.intro @tb_res_22 @tb_isAggT_33) (And.intro @tb_cellsT_33 @tb_zeroT_33)) (And.intro (And.intro @tb_callable_19 @tb_fieldOff_33_0) (And.intro @tb_isAggT_31 (And.intro @tb_cellsT_31 @tb_lenT_36)))) (And.intro (And.intro (And.intro @tb_indexT_36 @tb_fieldOff_25_2) (And.intro @tb_isAggT_23 @tb_cellsT_23)) (And.intro (And.intro @tb_lenT_23 @tb_fieldOff_25_0) (And.intro @tb_isAggT_9 (And.intro @tb_cellsT_9 @tb_fieldOff_25_1))))) (And.intro (And.intro (And.intro (And.intro @tb_isAggT_22 @tb_cellsT_22) (And.intro @tb_callable_51 @tb_indexT_23)) (And.intro (And.intro @tb_fieldOff_98_0 @tb_buildT_53) (And.intro @tb_zeroT_53 (And.intro @tb_isAggT_53 @tb_cellsT_53)))) (And.intro (And.intro (And.intro @tb_fieldOff_25_3 @tb_isAggT_2) (And.intro @tb_cellsT_2 (And.intro @tb_fieldOff_98_1 @tb_buildT_56))) (And.intro (And.intro @tb_buildT_58 @tb_buildT_60) (And.intro @tb_bsT_42_1 (And.intro @tb_callable_28 @tb_buildT_33))))))
abbrev tf23 := (And.intro (And.intro (And.intro @tb_res_23 @tb_lenT_42) (And.intro @tb_indexT_42 (And.intro @tb_isAggT_60 @tb_cellsT_60))) (And.intro (And.intro @tb_callable_26 (And.intro @tb_fieldOff_60_1 @tb_isAggT_58)) (And.intro @tb_cellsT_58 (And.intro @tb_eqT_58 @tb_eqS_58))))
abbrev tf24 := (And.intro (And.intro (And.intro @tb_res_24 (And.intro @tb_lenT_42 @tb_indexT_42)) (And.intro @tb_fieldOff_60_0 (And.intro @tb_isAggT_53 @tb_cellsT_53))) (And.intro (And.intro @tb_callable_52 (And.intro @tb_fieldOff_60_1 @tb_isAggT_58)) (And.intro (And.intro @tb_cellsT_58 @tb_buildT_60) (And.intro @tb_bsT_42_1 @tb_buildT_53))))
abbrev tf25 := (And.intro (And.intro (And.intro @tb_res_25 (And.intro @tb_zeroT_60 @tb_fieldOff_60_0)) (And.intro @tb_isAggT_53 (And.intro @tb_cellsT_53 @tb_callable_54))) (And.intro (And.intro @tb_fieldOff_60_1 (And.intro @tb_fieldOff_58_0 @tb_isAggT_2)) (And.intro (And.intro @tb_cellsT_2 @tb_callable_55) (And.intro @tb_bsT_48_2 @tb_callable_53))))
abbrev tf26 := (And.intro (And.intro (And.intro @tb_res_26 @tb_zeroT_60) (And.intro @tb_fieldOff_60_0 (And.intro @tb_isAggT_53 @tb_cellsT_53))) (And.intro (And.intro @tb_callable_56 @tb_fieldOff_60_1) (And.intro @tb_fieldOff_58_0 (And.intro @tb_isAggT_2 @tb_cellsT_2))))
abbrev tf27 := (And.intro @tb_res_27 (And.intro @tb_callable_58 @tb_callable_57))
abbrev tf28 := (And.intro (And.intro (And.intro @tb_res_28 (And.intro @tb_lenT_42 @tb_indexT_42)) (And.intro (And.intro @tb_fieldOff_60_0 @tb_isAggT_53) (And.intro @tb_cellsT_53 @tb_callable_52))) (And.intro (And.intro @tb_fieldOff_60_1 (And.intro @tb_isAggT_58 @tb_cellsT_58)) (And.intro (And.intro @tb_buildT_60 @tb_bsT_42_1) (And.intro @tb_callable_28 @tb_callable_59))))
abbrev tf29 := (And.intro (And.intro @tb_res_29 @tb_bsT_82_2) (And.intro @tb_callable_60 @tb_callable_27))
abbrev tf30 := (And.intro @tb_res_30 (And.intro @tb_callable_28 @tb_callable_59))
abbrev tf31 := (And.intro (And.intro (And.intro @tb_res_31 @tb_callable_23) (And.intro @tb_lenT_42 @tb_indexT_42)) (And.intro (And.intro @tb_fieldOff_60_0 @tb_fieldOff_53_0) (And.intro @tb_isAggT_9 @tb_cellsT_9)))
abbrev tf32 := (And.intro (And.intro @tb_res_32 (And.intro @tb_lenT_36 @tb_indexT_36)) (And.intro @tb_isAggT_25 (And.intro @tb_cellsT_25 @tb_callable_61)))
abbrev tf33 := (And.intro (And.intro (And.intro (And.intro (And.intro @tb_res_33 @tb_callable_27) (And.intro @tb_callable_63 @tb_callable_64)) (And.intro (And.intro @tb_lenT_42 @tb_indexT_42) (And.intro @tb_isAggT_60 (And.intro @tb_cellsT_60 @tb_zeroT_60)))) (And.intro (And.intro (And.intro @tb_fieldOff_60_0 @tb_fieldOff_53_2) (And.intro @tb_isAggT_9 (And.intro @tb_cellsT_9 @tb_fieldOff_60_1))) (And.intro (And.intro @tb_fieldOff_58_1 @tb_fieldOff_56_1) (And.intro @tb_isAggT_2 (And.intro @tb_cellsT_2 @tb_buildT_98))))) (And.intro (And.intro (And.intro (And.intro @tb_zeroT_98 @tb_isAggT_98) (And.intro @tb_cellsT_98 (And.intro @tb_isAggT_53 @tb_cellsT_53))) (And.intro (And.intro @tb_callable_66 @tb_callable_54) (And.intro @tb_fieldOff_58_0 (And.intro @tb_lenT_36 @tb_indexT_36)))) (And.intro (And.intro (And.intro @tb_fieldOff_25_2 @tb_isAggT_23) (And.intro @tb_cellsT_23 (And.intro @tb_bsT_23_1 @tb_fieldOff_53_0))) (And.intro (And.intro @tb_fieldOff_53_1 @tb_isAggT_22) (And.intro @tb_cellsT_22 (And.intro @tb_buildT_25 @tb_bsT_36_1))))))
abbrev tf34 := (And.intro (And.intro (And.intro (And.intro (And.intro @tb_res_34 @tb_callable_28) (And.intro @tb_lenT_42 (And.intro @tb_indexT_42 @tb_isAggT_60))) (And.intro (And.intro @tb_cellsT_60 (And.intro @tb_zeroT_60 @tb_fieldOff_60_1)) (And.intro @tb_fieldOff_58_1 (And.intro @tb_fieldOff_56_0 @tb_isAggT_54)))) (And.intro (And.intro (And.intro @tb_cellsT_54 @tb_fieldOff_60_0) (And.intro @tb_fieldOff_53_0 (And.intro @tb_isAggT_9 @tb_cellsT_9))) (And.intro (And.intro @tb_fieldOff_53_1 (And.intro @tb_isAggT_22 @tb_cellsT_22)) (And.intro @tb_fieldOff_58_0 (And.intro @tb_isAggT_2 @tb_cellsT_2))))) (And.intro (And.intro (And.intro (And.intro @tb_buildT_25 @tb_zeroT_25) (And.intro @tb_isAggT_25 (And.intro @tb_cellsT_25 @tb_fieldOff_53_2))) (And.intro (And.intro @tb_fieldOff_56_1 (And.intro @tb_buildT_98 @tb_zeroT_98)) (And.intro @tb_isAggT_98 (And.intro @tb_cellsT_98 @tb_lenT_36)))) (And.intro (And.intro (And.intro @tb_indexT_36 (And.intro @tb_callable_67 @tb_fieldOff_25_2)) (And.intro @tb_isAggT_23 (And.intro @tb_cellsT_23 @tb_bsT_23_1))) (And.intro (And.intro @tb_isAggT_53 (And.intro @tb_cellsT_53 @tb_callable_52)) (And.intro @tb_fieldAt_53_1 (And.intro @tb_fieldOff_25_1 @tb_bsT_36_1))))))
abbrev tf38 := (And.intro (And.intro @tb_res_38 (And.intro @tb_zeroT_31 @tb_eqT_29)) (And.intro (And.intro @tb_ifaceT_105 @tb_callable_39) (And.intro @tb_isAggT_31 @tb_cellsT_31)))
abbrev tf39 := (And.intro (And.intro (And.intro @tb_res_39 (And.intro @tb_eqT_29 @tb_eqT_20)) (And.intro @tb_ifaceT_9 (And.intro @tb_callable_98 @tb_zeroT_137))) (And.intro (And.intro @tb_isAggT_137 (And.intro @tb_cellsT_137 @tb_callable_99)) (And.intro (And.intro @tb_callable_100 @tb_isAggT_140) (And.intro @tb_cellsT_140 @tb_callable_101))))
abbrev tf40 := (And.intro @tb_res_40 (And.intro @tb_callable_102 @tb_callable_41))
abbrev tf41 := (And.intro @tb_res_41 @tb_ifaceT_31)
abbrev tf42 := (And.intro (And.intro (And.intro @tb_res_42 (And.intro @tb_lenT_22 @tb_indexT_22)) (And.intro (And.intro @tb_isAggT_115 @tb_cellsT_115) (And.intro @tb_zeroT_115 @tb_fieldOff_115_0))) (And.intro (And.intro (And.intro @tb_isAggT_9 @tb_cellsT_9) (And.intro @tb_callable_103 @tb_fieldOff_115_1)) (And.intro (And.intro @tb_callable_104 @tb_eqT_29) (And.intro @tb_bsT_147_1 @tb_callable_105))))
abbrev tf43 := (And.intro (And.intro (And.intro @tb_res_43 (And.intro @tb_lenT_23 @tb_indexT_23)) (And.intro @tb_isAggT_98 (And.intro @tb_cellsT_98 @tb_zeroT_98))) (And.intro (And.intro @tb_fieldOff_98_0 (And.intro @tb_isAggT_9 @tb_cellsT_9)) (And.intro @tb_callable_103 (And.intro @tb_bsT_147_1 @tb_callable_105))))
abbrev tf44 := (And.intro @tb_res_44 @tb_callable_106)
abbrev tf45 := (And.intro (And.intro @tb_res_45 @tb_isAggT_33) (And.intro @tb_cellsT_33 (And.intro @tb_zeroT_33 @tb_buildT_33)))
abbrev tf46 := (And.intro (And.intro @tb_res_46 @tb_callable_51) (And.intro @tb_callable_107 (And.intro @tb_fieldAt_33_0 @tb_lenT_22)))
abbrev tf47 := (And.intro (And.intro @tb_res_47 (And.intro @tb_lenT_23 @tb_indexT_23)) (And.intro (And.intro @tb_fieldOff_98_0 @tb_isAggT_9) (And.intro @tb_cellsT_9 @tb_callable_108)))
abbrev tf48 := (And.intro (And.intro @tb_res_48 @tb_eqT_29) (And.intro @tb_buildT_103 @tb_ifaceT_103))
abbrev tf49 := (And.intro (And.intro (And.intro @tb_res_49 (And.intro @tb_isAggT_33 @tb_cellsT_33)) (And.intro (And.intro @tb_zeroT_33 @tb_fieldOff_33_0) (And.intro @tb_isAggT_31 @tb_cellsT_31))) (And.intro (And.intro @tb_buildT_33 (And.intro @tb_fieldOff_33_2 @tb_isAggT_3)) (And.intro (And.intro @tb_cellsT_3 @tb_fieldOff_33_4) (And.intro @tb_isAggT_4 @tb_cellsT_4))))
abbrev tf50 := (And.intro (And.intro (And.intro @tb_res_50 @tb_lenT_22) (And.intro @tb_indexT_22 @tb_isAggT_115)) (And.intro (And.intro @tb_cellsT_115 @tb_zeroT_115) (And.intro @tb_callable_109 (And.intro @tb_bsT_22_1 @tb_callable_111))))
abbrev tf51 := (And.intro (And.intro (And.intro @tb_res_51 @tb_lenT_22) (And.intro @tb_indexT_22 (And.intro @tb_fieldOff_115_0 @tb_isAggT_9))) (And.intro (And.intro @tb_cellsT_9 (And.intro @tb_fieldOff_115_1 @tb_buildT_115)) (And.intro @tb_bsT_22_1 (And.intro @tb_isAggT_115 @tb_cellsT_115))))
abbrev tf52 := (And.intro (And.intro @tb_res_52 (And.intro @tb_isAggT_53 @tb_cellsT_53)) (And.intro (And.intro @tb_zeroT_53 @tb_fieldOff_53_1) (And.intro @tb_isAggT_22 @tb_cellsT_22)))
abbrev tf53 := (And.intro (And.intro @tb_res_53 @tb_lenT_48) (And.intro @tb_indexT_48 (And.intro @tb_isAggT_3 @tb_cellsT_3)))
abbrev tf54 := (And.intro (And.intro (And.intro @tb_res_54 (And.intro @tb_zeroT_53 @tb_fieldOff_53_0)) (And.intro @tb_isAggT_9 (And.intro @tb_cellsT_9 @tb_callable_113))) (And.intro (And.intro @tb_fieldOff_53_1 (And.intro @tb_isAggT_22 @tb_cellsT_22)) (And.intro (And.intro @tb_callable_114 @tb_fieldOff_53_2) (And.intro @tb_bsT_48_3 @tb_callable_53))))
abbrev tf55 := (And.intro @tb_res_55 @tb_callable_115)
abbrev tf56 := (And.intro (And.intro (And.intro @tb_res_56 @tb_zeroT_53) (And.intro @tb_fieldOff_53_0 (And.intro @tb_isAggT_9 @tb_cellsT_9))) (And.intro (And.intro @tb_callable_116 (And.intro @tb_fieldOff_53_1 @tb_isAggT_22)) (And.intro @tb_cellsT_22 (And.intro @tb_callable_117 @tb_fieldOff_53_2))))
abbrev tf57 := (And.intro (And.intro (And.intro @tb_res_57 @tb_lenT_42) (And.intro @tb_indexT_42 @tb_fieldOff_60_0)) (And.intro (And.intro @tb_fieldOff_53_1 @tb_isAggT_22) (And.intro @tb_cellsT_22 @tb_callable_118)))
abbrev tf58 := (And.intro (And.intro (And.intro @tb_res_58 @tb_callable_119) (And.intro @tb_callable_64 @tb_lenT_42)) (And.intro (And.intro @tb_indexT_42 @tb_isAggT_60) (And.intro @tb_cellsT_60 (And.intro @tb_zeroT_60 @tb_bsT_42_1))))
abbrev tf59 := (And.intro (And.intro @tb_res_59 (And.intro @tb_lenT_42 @tb_indexT_42)) (And.intro (And.intro @tb_isAggT_60 @tb_cellsT_60) (And.intro @tb_callable_26 @tb_bsT_42_1)))
abbrev tf60 := (And.intro (And.intro (And.intro @tb_res_60 @tb_lenT_82) (And.intro @tb_indexT_82 @tb_isAggT_42)) (And.intro (And.intro @tb_cellsT_42 @tb_lenT_42) (And.intro @tb_ifaceT_9 @tb_callable_120)))
abbrev tf61 := (And.intro (And.intro (And.intro (And.intro @tb_res_61 @tb_zeroT_25) (And.intro @tb_fieldOff_25_0 (And.intro @tb_isAggT_9 @tb_cellsT_9))) (And.intro (And.intro @tb_fieldOff_25_3 @tb_isAggT_2) (And.intro @tb_cellsT_2 (And.intro @tb_fieldOff_25_1 @tb_isAggT_22)))) (And.intro (And.intro (And.intro @tb_cellsT_22 @tb_callable_121) (And.intro @tb_fieldOff_25_2 (And.intro @tb_isAggT_23 @tb_cellsT_23))) (And.intro (And.intro @tb_lenT_23 (And.intro @tb_indexT_23 @tb_isAggT_98)) (And.intro @tb_cellsT_98 (And.intro @tb_eqT_98 @tb_eqS_98)))))
abbrev tf62 := (And.intro (And.intro @tb_res_62 (And.intro @tb_zeroT_60 @tb_fieldOff_60_1)) (And.intro (And.intro @tb_fieldOff_58_1 @tb_fieldOff_56_0) (And.intro @tb_isAggT_54 @tb_cellsT_54)))
abbrev tf63 := (And.intro (And.intro @tb_res_63 (And.intro @tb_callable_122 @tb_lenT_42)) (And.intro (And.intro @tb_indexT_42 @tb_isAggT_60) (And.intro @tb_cellsT_60 @tb_zeroT_60)))
abbrev tf64 := (And.intro @tb_res_64 (And.intro @tb_lenT_42 @tb_callable_123))
abbrev tf65 := (And.intro (And.intro (And.intro @tb_res_65 (And.intro @tb_zeroT_60 @tb_fieldOff_60_0)) (And.intro (And.intro @tb_isAggT_53 @tb_cellsT_53) (And.intro @tb_callable_66 @tb_callable_54))) (And.intro (And.intro @tb_fieldOff_60_1 (And.intro @tb_fieldOff_58_0 @tb_isAggT_2)) (And.intro (And.intro @tb_cellsT_2 @tb_callable_55) (And.intro @tb_bsT_48_2 @tb_callable_53))))
abbrev tf66 := (And.intro (And.intro (And.intro @tb_res_66 @tb_isAggT_53) (And.intro @tb_cellsT_53 (And.intro @tb_zeroT_53 @tb_fieldOff_53_0))) (And.intro (And.intro @tb_isAggT_9 (And.intro @tb_cellsT_9 @tb_fieldOff_53_1)) (And.intro @tb_isAggT_22 (And.intro @tb_cellsT_22 @tb_buildT_53))))
abbrev tf67 := (And.intro (And.intro (And.intro (And.intro @tb_res_67 @tb_zeroT_25) (And.intro @tb_fieldOff_25_0 @tb_isAggT_9)) (And.intro (And.intro @tb_cellsT_9 @tb_fieldOff_25_1) (And.intro @tb_isAggT_22 (And.intro @tb_cellsT_22 @tb_buildT_53)))) (And.intro (And.intro (And.intro @tb_zeroT_53 @tb_isAggT_53) (And.intro @tb_cellsT_53 @tb_fieldOff_25_3)) (And.intro (And.intro @tb_isAggT_2 @tb_cellsT_2) (And.intro @tb_buildT_58 (And.intro @tb_buildT_60 @tb_callable_26)))))
abbrev tf101 := (And.intro (And.intro (And.intro (And.intro @tb_res_101 @tb_zeroT_137) (And.intro @tb_callable_125 @tb_isAggT_137)) (And.intro (And.intro @tb_cellsT_137 @tb_callable_126) (And.intro @tb_callable_98 @tb_callable_127))) (And.intro (And.intro (And.intro @tb_ifaceT_229 @tb_ifaceT_232) (And.intro @tb_eqT_29 @tb_ifaceT_234)) (And.intro (And.intro @tb_lenT_235 @tb_indexT_235) (And.intro @tb_isAggT_29 (And.intro @tb_cellsT_29 @tb_callable_101)))))
abbrev tf102 := (And.intro (And.intro @tb_res_102 @tb_lenT_9) (And.intro @tb_callable_129 @tb_callable_130))
abbrev tf103 := (And.intro @tb_res_103 (And.intro @tb_callable_40 @tb_eqT_29))
abbrev tf104 := (And.intro @tb_res_104 (And.intro @tb_callable_102 @tb_callable_41))
abbrev tf105 := (And.intro (And.intro @tb_res_105 @tb_callable_131) (And.intro @tb_callable_133 (And.intro @tb_callable_132 @tb_lenT_147)))
abbrev tf106 := (And.intro (And.intro @tb_res_106 @tb_lenT_9) (And.intro @tb_indexT_9 @tb_callable_134))
abbrev tf107 := (And.intro (And.intro (And.intro @tb_res_107 (And.intro @tb_isAggT_33 @tb_cellsT_33)) (And.intro (And.intro @tb_zeroT_33 @tb_lenT_22) (And.intro @tb_indexT_22 @tb_fieldOff_115_0))) (And.intro (And.intro @tb_isAggT_9 (And.intro @tb_cellsT_9 @tb_callable_108)) (And.intro (And.intro @tb_fieldOff_115_1 @tb_callable_135) (And.intro @tb_callable_45 @tb_buildT_33))))
abbrev tf108 := (And.intro @tb_res_108 @tb_callable_44)
abbrev tf109 := (And.intro (And.intro (And.intro @tb_res_109 @tb_zeroT_115) (And.intro @tb_lenT_22 @tb_convT_3_242)) (And.intro (And.intro @tb_convT_242_3 @tb_indexT_22) (And.intro @tb_isAggT_115 @tb_cellsT_115)))
abbrev tf110 := (And.intro (And.intro @tb_res_110 (And.intro @tb_zeroT_115 @tb_fieldOff_115_0)) (And.intro @tb_isAggT_9 (And.intro @tb_cellsT_9 @tb_callable_113)))
abbrev tf111 := (And.intro (And.intro @tb_res_111 @tb_indexT_22) (And.intro @tb_lenT_22 (And.intro @tb_callable_136 @tb_callable_137)))
abbrev tf112 := (And.intro (And.intro (And.intro @tb_res_112 @tb_zeroT_115) (And.intro @tb_fieldOff_115_0 @tb_isAggT_9)) (And.intro (And.intro @tb_cellsT_9 @tb_callable_113) (And.intro @tb_fieldOff_115_1 (And.intro @tb_bsT_48_2 @tb_callable_53))))
abbrev tf113 := (And.intro @tb_res_113 @tb_callable_138)
abbrev tf114 := (And.intro (And.intro @tb_res_114 (And.intro @tb_lenT_22 @tb_indexT_22)) (And.intro @tb_isAggT_115 (And.intro @tb_cellsT_115 @tb_zeroT_115)))
abbrev tf115 := @tb_res_115
abbrev tf116 := @tb_res_116
abbrev tf117 := (And.intro (And.intro (And.intro @tb_res_117 @tb_lenT_22) (And.intro @tb_indexT_22 @tb_fieldOff_115_0)) (And.intro (And.intro @tb_isAggT_9 @tb_cellsT_9) (And.intro @tb_callable_116 @tb_fieldOff_115_1)))
abbrev tf118 := (And.intro @tb_res_118 (And.intro @tb_eqT_22 @tb_bsT_22_0))
abbrev tf119 := (And.intro @tb_res_119 (And.intro @tb_eqT_42 @tb_bsT_42_0))
abbrev tf120 := (And.intro (And.intro @tb_res_120 @tb_ifaceT_9) (And.intro @tb_lenT_42 @tb_indexT_42))
abbrev tf121 := (And.intro @tb_res_121 @tb_callable_117)
abbrev tf122 := (And.intro (And.intro @tb_res_122 @tb_lenT_42) (And.intro @tb_indexT_42 (And.intro @tb_isAggT_60 @tb_cellsT_60)))
abbrev tf123 := (And.intro @tb_res_123 (And.intro @tb_callable_139 @tb_callable_140))
abbrev tf128 := @tb_res_128
abbrev tf129 := (And.intro (And.intro (And.intro @tb_res_129 (And.intro @tb_lenT_9 @tb_indexT_9)) (And.intro (And.intro @tb_callable_141 @tb_indexT_247) (And.intro @tb_isAggT_5 @tb_cellsT_5))) (And.intro (And.intro @tb_convT_5_3 (And.intro @tb_indexT_250 @tb_isAggT_249)) (And.intro (And.intro @tb_cellsT_249 @tb_zeroT_249) (And.intro @tb_fieldOff_249_0 @tb_fieldOff_249_1))))
abbrev tf130 := (And.intro @tb_res_130 @tb_callable_142)
abbrev tf131 := (And.intro (And.intro @tb_res_131 @tb_lenT_147) (And.intro @tb_convT_3_242 (And.intro @tb_callable_144 @tb_callable_143)))
abbrev tf132 := (And.intro (And.intro @tb_res_132 @tb_lenT_147) (And.intro @tb_indexT_147 (And.intro @tb_isAggT_9 @tb_cellsT_9)))
abbrev tf133 := (And.intro @tb_res_133 (And.intro @tb_eqT_147 @tb_bsT_147_0))
abbrev tf134 := (And.intro (And.intro @tb_res_134 @tb_indexT_9) (And.intro @tb_convT_5_3 @tb_lenT_9))
abbrev tf135 := (And.intro @tb_res_135 @tb_callable_106)
abbrev tf138 := @tb_res_138
abbrev tf139 := (And.intro (And.intro @tb_res_139 @tb_indexT_42) (And.intro @tb_isAggT_60 @tb_cellsT_60))
abbrev tf140 := (And.intro (And.intro (And.intro @tb_res_140 @tb_convT_3_242) (And.intro @tb_convT_242_3 @tb_indexT_42)) (And.intro (And.intro @tb_isAggT_60 @tb_cellsT_60) (And.intro @tb_callable_146 @tb_callable_140)))
abbrev tf141 := (And.intro (And.intro @tb_res_141 @tb_indexT_9) (And.intro @tb_convT_5_12 @tb_convT_5_166))
abbrev tf142 := (And.intro @tb_res_142 @tb_callable_147)
abbrev tf143 := (And.intro (And.intro (And.intro @tb_res_143 (And.intro @tb_callable_148 @tb_callable_149)) (And.intro (And.intro @tb_callable_150 @tb_callable_151) (And.intro @tb_callable_152 @tb_callable_153))) (And.intro (And.intro @tb_indexT_147 (And.intro @tb_isAggT_9 @tb_cellsT_9)) (And.intro (And.intro @tb_callable_154 @tb_callable_155) (And.intro @tb_callable_156 @tb_callable_143))))
abbrev tf144 := (And.intro (And.intro @tb_res_144 @tb_convT_242_264) (And.intro @tb_callable_157 @tb_callable_158))
abbrev tf146 := (And.intro @tb_res_146 @tb_callable_160)
abbrev tf147 := (And.intro @tb_res_147 @tb_eqT_4)
abbrev tf148 := (And.intro (And.intro @tb_res_148 @tb_indexT_147) (And.intro @tb_isAggT_9 (And.intro @tb_cellsT_9 @tb_callable_154)))
abbrev tf149 := (And.intro (And.intro @tb_res_149 @tb_callable_161) (And.intro @tb_indexT_147 (And.intro @tb_isAggT_9 @tb_cellsT_9)))
abbrev tf150 := (And.intro (And.intro (And.intro @tb_res_150 @tb_convT_3_266) (And.intro @tb_zeroT_266 (And.intro @tb_isAggT_266 @tb_cellsT_266))) (And.intro (And.intro @tb_callable_162 (And.intro @tb_callable_163 @tb_convT_242_3)) (And.intro @tb_indexT_147 (And.intro @tb_isAggT_9 @tb_cellsT_9))))
abbrev tf151 := (And.intro (And.intro @tb_res_151 (And.intro @tb_zeroT_3 @tb_callable_164)) (And.intro @tb_callable_165 (And.intro @tb_isAggT_3 @tb_cellsT_3)))
abbrev tf152 := (And.intro (And.intro @tb_res_152 @tb_indexT_147) (And.intro @tb_isAggT_9 @tb_cellsT_9))
abbrev tf153 := (And.intro (And.intro @tb_res_153 @tb_indexT_147) (And.intro @tb_isAggT_9 (And.intro @tb_cellsT_9 @tb_callable_154)))
abbrev tf154 := (And.intro @tb_res_154 @tb_callable_138)
abbrev tf155 := (And.intro (And.intro @tb_res_155 @tb_indexT_147) (And.intro @tb_isAggT_9 (And.intro @tb_cellsT_9 @tb_callable_154)))
abbrev tf156 := (And.intro (And.intro @tb_res_156 @tb_indexT_147) (And.intro @tb_isAggT_9 (And.intro @tb_cellsT_9 @tb_callable_154)))
abbrev tf157 := (And.intro (And.intro @tb_res_157 @tb_convT_264_5) (And.intro @tb_indexT_9 @tb_convT_5_3))
abbrev tf158 := (And.intro (And.intro @tb_res_158 @tb_convT_166_5) (And.intro @tb_indexT_9 @tb_convT_5_3))
abbrev tf160 := (And.intro (And.intro @tb_res_160 @tb_indexT_42) (And.intro @tb_isAggT_60 @tb_cellsT_60))
abbrev tf161 := (And.intro (And.intro @tb_res_161 @tb_indexT_147) (And.intro @tb_isAggT_9 (And.intro @tb_cellsT_9 @tb_callable_154)))
abbrev tf162 := (And.intro @tb_res_162 (And.intro @tb_convT_3_242 @tb_callable_144))
abbrev tf163 := (And.intro @tb_res_163 (And.intro @tb_isAggT_266 @tb_cellsT_266))
abbrev tf164 := (And.intro @tb_res_164 @tb_callable_165)
abbrev tf165 := (And.intro @tb_res_165 @tb_callable_166)
abbrev tf166 := (And.intro (And.intro @tb_res_166 (And.intro @tb_indexT_147 @tb_isAggT_9)) (And.intro (And.intro @tb_cellsT_9 @tb_callable_154) (And.intro @tb_isAggT_3 @tb_cellsT_3)))
abbrev tf186 := (And.intro (And.intro @tb_res_186 @tb_zeroT_101) (And.intro @tb_fieldOff_101_1 (And.intro @tb_isAggT_29 @tb_cellsT_29)))
abbrev tf188 := (And.intro (And.intro @tb_res_188 @tb_zeroT_103) (And.intro @tb_fieldOff_103_1 (And.intro @tb_isAggT_29 @tb_cellsT_29)))
end Go.Proofs.YtljgnocpijniiaaGreatDoor
