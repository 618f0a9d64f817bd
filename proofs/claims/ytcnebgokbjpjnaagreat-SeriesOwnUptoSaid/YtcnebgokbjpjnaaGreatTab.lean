/- Closed facts on the tables of the program, each by the kernel: written by a program. -/
import Derived.Test.YtcnebgokbjpjnaaGreatDen
import Derived.Test.YtcnebgokbjpjnaaGreatProg
import Derived.KernelRfl
set_option maxRecDepth 100000
namespace Go.Proofs.YtcnebgokbjpjnaaGreat
open Go
theorem mixed : Tryz.prog.follows .mixedOrders = true := by kernel_rfl
theorem tb_bsT_112_1 : bsT Tryz.prog 112 1 = some (5, 1, #[.int .u8 0]) := by kernel_rfl
theorem tb_bsT_112_3 : bsT Tryz.prog 112 3 = some (5, 1, #[.int .u8 0, .int .u8 0, .int .u8 0]) := by kernel_rfl
theorem tb_bsT_113_1 : bsT Tryz.prog 113 1 = some (9, 1, #[.string ByteArray.empty]) := by kernel_rfl
theorem tb_bsT_115_1 : bsT Tryz.prog 115 1 = some (3, 1, #[.int .i64 0]) := by kernel_rfl
theorem tb_bsT_116_1 : bsT Tryz.prog 116 1 = some (117, 1, #[.int .u64 0]) := by kernel_rfl
theorem tb_bsT_120_1 : bsT Tryz.prog 120 1 = some (122, 2, #[.string ByteArray.empty, .int .i64 0]) := by kernel_rfl
theorem tb_bsT_123_1 : bsT Tryz.prog 123 1 = some (127, 6, #[.int .u8 0, .int .u8 0, .string ByteArray.empty, .int .i64 0, .int .i64 0, .int .i64 0]) := by kernel_rfl
theorem tb_bsT_128_1 : bsT Tryz.prog 128 1 = some (130, 2, #[.string ByteArray.empty, .int .i64 0]) := by kernel_rfl
theorem tb_bsT_131_1 : bsT Tryz.prog 131 1 = some (133, 2, #[.int .u8 0, .string ByteArray.empty]) := by kernel_rfl
theorem tb_bsT_134_1 : bsT Tryz.prog 134 1 = some (137, 3, #[.int .u8 0, .int .i64 0, .int .i64 0]) := by kernel_rfl
theorem tb_bsT_138_1 : bsT Tryz.prog 138 1 = some (140, 2, #[.int .i64 0, .string ByteArray.empty]) := by kernel_rfl
theorem tb_bsT_141_1 : bsT Tryz.prog 141 1 = some (143, 3, #[.bool false, .int .u8 0, .int .i64 0]) := by kernel_rfl
theorem tb_bsT_144_1 : bsT Tryz.prog 144 1 = some (147, 4, #[.int .u8 0, .string ByteArray.empty, .int .i64 0, .int .i64 0]) := by kernel_rfl
theorem tb_bsT_148_1 : bsT Tryz.prog 148 1 = some (152, 4, #[.bool false, .int .i64 0, .int .i64 0, .int .u64 0]) := by kernel_rfl
theorem tb_bsT_153_1 : bsT Tryz.prog 153 1 = some (155, 2, #[.string ByteArray.empty, .int .i64 0]) := by kernel_rfl
theorem tb_bsT_156_1 : bsT Tryz.prog 156 1 = some (158, 4, #[.string ByteArray.empty, .slice none 0 0, .slice none 0 0, .int .i64 0]) := by kernel_rfl
theorem tb_bsT_159_1 : bsT Tryz.prog 159 1 = some (161, 6, #[.string ByteArray.empty, .slice none 0 0, .string ByteArray.empty, .int .i64 0, .int .u8 0, .int .i64 0]) := by kernel_rfl
theorem tb_bsT_162_1 : bsT Tryz.prog 162 1 = some (93, 3, #[.string ByteArray.empty, .slice none 0 0, .string ByteArray.empty]) := by kernel_rfl
theorem tb_bsT_163_1 : bsT Tryz.prog 163 1 = some (165, 4, #[.slice none 0 0, .string ByteArray.empty, .int .i64 0, .int .i64 0]) := by kernel_rfl
theorem tb_bsT_166_1 : bsT Tryz.prog 166 1 = some (168, 3, #[.string ByteArray.empty, .slice none 0 0, .slice none 0 0]) := by kernel_rfl
theorem tb_bsT_169_1 : bsT Tryz.prog 169 1 = some (171, 2, #[.string ByteArray.empty, .slice none 0 0]) := by kernel_rfl
theorem tb_bsT_172_1 : bsT Tryz.prog 172 1 = some (174, 2, #[.int .i64 0, .slice none 0 0]) := by kernel_rfl
theorem tb_bsT_175_1 : bsT Tryz.prog 175 1 = some (177, 3, #[.int .i64 0, .slice none 0 0, .slice none 0 0]) := by kernel_rfl
theorem tb_bsT_178_1 : bsT Tryz.prog 178 1 = some (180, 3, #[.string ByteArray.empty, .slice none 0 0, .slice none 0 0]) := by kernel_rfl
theorem tb_bsT_29_1 : bsT Tryz.prog 29 1 = some (112, 1, #[.slice none 0 0]) := by kernel_rfl
theorem tb_bsT_30_1 : bsT Tryz.prog 30 1 = some (113, 1, #[.slice none 0 0]) := by kernel_rfl
theorem tb_bsT_31_1 : bsT Tryz.prog 31 1 = some (115, 1, #[.slice none 0 0]) := by kernel_rfl
theorem tb_bsT_32_1 : bsT Tryz.prog 32 1 = some (72, 1, #[.slice none 0 0]) := by kernel_rfl
theorem tb_bsT_33_1 : bsT Tryz.prog 33 1 = some (116, 1, #[.slice none 0 0]) := by kernel_rfl
theorem tb_bsT_34_1 : bsT Tryz.prog 34 1 = some (91, 1, #[.slice none 0 0]) := by kernel_rfl
theorem tb_bsT_35_1 : bsT Tryz.prog 35 1 = some (120, 1, #[.slice none 0 0]) := by kernel_rfl
theorem tb_bsT_36_1 : bsT Tryz.prog 36 1 = some (62, 1, #[.slice none 0 0]) := by kernel_rfl
theorem tb_bsT_37_1 : bsT Tryz.prog 37 1 = some (123, 1, #[.slice none 0 0]) := by kernel_rfl
theorem tb_bsT_38_1 : bsT Tryz.prog 38 1 = some (128, 1, #[.slice none 0 0]) := by kernel_rfl
theorem tb_bsT_39_1 : bsT Tryz.prog 39 1 = some (131, 1, #[.slice none 0 0]) := by kernel_rfl
theorem tb_bsT_40_1 : bsT Tryz.prog 40 1 = some (134, 1, #[.slice none 0 0]) := by kernel_rfl
theorem tb_bsT_41_1 : bsT Tryz.prog 41 1 = some (138, 1, #[.slice none 0 0]) := by kernel_rfl
theorem tb_bsT_42_1 : bsT Tryz.prog 42 1 = some (141, 1, #[.slice none 0 0]) := by kernel_rfl
theorem tb_bsT_43_1 : bsT Tryz.prog 43 1 = some (144, 1, #[.slice none 0 0]) := by kernel_rfl
theorem tb_bsT_44_1 : bsT Tryz.prog 44 1 = some (148, 1, #[.slice none 0 0]) := by kernel_rfl
theorem tb_bsT_45_1 : bsT Tryz.prog 45 1 = some (153, 1, #[.slice none 0 0]) := by kernel_rfl
theorem tb_bsT_46_1 : bsT Tryz.prog 46 1 = some (156, 1, #[.slice none 0 0]) := by kernel_rfl
theorem tb_bsT_47_1 : bsT Tryz.prog 47 1 = some (159, 1, #[.slice none 0 0]) := by kernel_rfl
theorem tb_bsT_48_1 : bsT Tryz.prog 48 1 = some (68, 1, #[.slice none 0 0]) := by kernel_rfl
theorem tb_bsT_49_1 : bsT Tryz.prog 49 1 = some (162, 1, #[.slice none 0 0]) := by kernel_rfl
theorem tb_bsT_50_1 : bsT Tryz.prog 50 1 = some (163, 1, #[.slice none 0 0]) := by kernel_rfl
theorem tb_bsT_51_1 : bsT Tryz.prog 51 1 = some (166, 1, #[.slice none 0 0]) := by kernel_rfl
theorem tb_bsT_52_1 : bsT Tryz.prog 52 1 = some (169, 1, #[.slice none 0 0]) := by kernel_rfl
theorem tb_bsT_53_1 : bsT Tryz.prog 53 1 = some (30, 1, #[.slice none 0 0]) := by kernel_rfl
theorem tb_bsT_54_1 : bsT Tryz.prog 54 1 = some (172, 1, #[.slice none 0 0]) := by kernel_rfl
theorem tb_bsT_55_1 : bsT Tryz.prog 55 1 = some (175, 1, #[.slice none 0 0]) := by kernel_rfl
theorem tb_bsT_56_1 : bsT Tryz.prog 56 1 = some (178, 1, #[.slice none 0 0]) := by kernel_rfl
theorem tb_bsT_62_0 : bsT Tryz.prog 62 0 = some (89, 3, #[]) := by kernel_rfl
theorem tb_bsT_62_1 : bsT Tryz.prog 62 1 = some (89, 3, #[.int .i64 0, .int .u8 0, .int .i64 0]) := by kernel_rfl
theorem tb_bsT_68_1 : bsT Tryz.prog 68 1 = some (95, 10, #[.string ByteArray.empty, .slice none 0 0, .string ByteArray.empty, .int .i64 0, .bool false, .bool false, .int .u8 0, .int .i64 0, .int .u8 0, .int .i64 0]) := by kernel_rfl
theorem tb_bsT_72_1 : bsT Tryz.prog 72 1 = some (2, 1, #[.int .i64 0]) := by kernel_rfl
theorem tb_bsT_72_2 : bsT Tryz.prog 72 2 = some (2, 1, #[.int .i64 0, .int .i64 0]) := by kernel_rfl
theorem tb_bsT_91_1 : bsT Tryz.prog 91 1 = some (119, 2, #[.string ByteArray.empty, .string ByteArray.empty]) := by kernel_rfl
theorem tb_buildT_119 : buildT Tryz.prog 119 = some (#[.string ByteArray.empty, .string ByteArray.empty], [(0, 1), (1, 1)]) := by kernel_rfl
theorem tb_buildT_122 : buildT Tryz.prog 122 = some (#[.string ByteArray.empty, .int .i64 0], [(0, 1), (1, 1)]) := by kernel_rfl
theorem tb_buildT_127 : buildT Tryz.prog 127 = some (#[.int .u8 0, .int .u8 0, .string ByteArray.empty, .int .i64 0, .int .i64 0, .int .i64 0], [(0, 1), (1, 1), (2, 1), (3, 1), (4, 1), (5, 1)]) := by kernel_rfl
theorem tb_buildT_130 : buildT Tryz.prog 130 = some (#[.string ByteArray.empty, .int .i64 0], [(0, 1), (1, 1)]) := by kernel_rfl
theorem tb_buildT_133 : buildT Tryz.prog 133 = some (#[.int .u8 0, .string ByteArray.empty], [(0, 1), (1, 1)]) := by kernel_rfl
theorem tb_buildT_137 : buildT Tryz.prog 137 = some (#[.int .u8 0, .int .i64 0, .int .i64 0], [(0, 1), (1, 1), (2, 1)]) := by kernel_rfl
theorem tb_buildT_140 : buildT Tryz.prog 140 = some (#[.int .i64 0, .string ByteArray.empty], [(0, 1), (1, 1)]) := by kernel_rfl
theorem tb_buildT_143 : buildT Tryz.prog 143 = some (#[.bool false, .int .u8 0, .int .i64 0], [(0, 1), (1, 2)]) := by kernel_rfl
theorem tb_buildT_147 : buildT Tryz.prog 147 = some (#[.int .u8 0, .string ByteArray.empty, .int .i64 0, .int .i64 0], [(0, 1), (1, 1), (2, 1), (3, 1)]) := by kernel_rfl
theorem tb_buildT_152 : buildT Tryz.prog 152 = some (#[.bool false, .int .i64 0, .int .i64 0, .int .u64 0], [(0, 1), (1, 1), (2, 2)]) := by kernel_rfl
theorem tb_buildT_155 : buildT Tryz.prog 155 = some (#[.string ByteArray.empty, .int .i64 0], [(0, 1), (1, 1)]) := by kernel_rfl
theorem tb_buildT_158 : buildT Tryz.prog 158 = some (#[.string ByteArray.empty, .slice none 0 0, .slice none 0 0, .int .i64 0], [(0, 1), (1, 1), (2, 1), (3, 1)]) := by kernel_rfl
theorem tb_buildT_161 : buildT Tryz.prog 161 = some (#[.string ByteArray.empty, .slice none 0 0, .string ByteArray.empty, .int .i64 0, .int .u8 0, .int .i64 0], [(0, 3), (3, 3)]) := by kernel_rfl
theorem tb_buildT_165 : buildT Tryz.prog 165 = some (#[.slice none 0 0, .string ByteArray.empty, .int .i64 0, .int .i64 0], [(0, 1), (1, 2), (3, 1)]) := by kernel_rfl
theorem tb_buildT_168 : buildT Tryz.prog 168 = some (#[.string ByteArray.empty, .slice none 0 0, .slice none 0 0], [(0, 1), (1, 1), (2, 1)]) := by kernel_rfl
theorem tb_buildT_171 : buildT Tryz.prog 171 = some (#[.string ByteArray.empty, .slice none 0 0], [(0, 1), (1, 1)]) := by kernel_rfl
theorem tb_buildT_174 : buildT Tryz.prog 174 = some (#[.int .i64 0, .slice none 0 0], [(0, 1), (1, 1)]) := by kernel_rfl
theorem tb_buildT_177 : buildT Tryz.prog 177 = some (#[.int .i64 0, .slice none 0 0, .slice none 0 0], [(0, 2), (2, 1)]) := by kernel_rfl
theorem tb_buildT_180 : buildT Tryz.prog 180 = some (#[.string ByteArray.empty, .slice none 0 0, .slice none 0 0], [(0, 1), (1, 1), (2, 1)]) := by kernel_rfl
theorem tb_buildT_58 : buildT Tryz.prog 58 = some (#[.slice none 0 0, .slice none 0 0, .slice none 0 0, .slice none 0 0, .slice none 0 0, .slice none 0 0, .slice none 0 0, .slice none 0 0, .slice none 0 0, .slice none 0 0, .slice none 0 0, .slice none 0 0, .slice none 0 0, .slice none 0 0, .slice none 0 0, .slice none 0 0, .slice none 0 0, .slice none 0 0, .slice none 0 0, .slice none 0 0, .slice none 0 0, .slice none 0 0, .slice none 0 0, .slice none 0 0, .slice none 0 0, .slice none 0 0, .slice none 0 0, .slice none 0 0], [(0, 1), (1, 1), (2, 1), (3, 1), (4, 1), (5, 1), (6, 1), (7, 1), (8, 1), (9, 1), (10, 1), (11, 1), (12, 1), (13, 1), (14, 1), (15, 1), (16, 1), (17, 1), (18, 1), (19, 1), (20, 1), (21, 1), (22, 1), (23, 1), (24, 1), (25, 1), (26, 1), (27, 1)]) := by kernel_rfl
theorem tb_buildT_61 : buildT Tryz.prog 61 = some (#[.int .u8 0, .int .i64 0], [(0, 1), (1, 1)]) := by kernel_rfl
theorem tb_buildT_80 : buildT Tryz.prog 80 = some (#[.slice none 0 0], [(0, 1)]) := by kernel_rfl
theorem tb_buildT_82 : buildT Tryz.prog 82 = some (#[.slice none 0 0], [(0, 1)]) := by kernel_rfl
theorem tb_buildT_84 : buildT Tryz.prog 84 = some (#[.slice none 0 0], [(0, 1)]) := by kernel_rfl
theorem tb_buildT_89 : buildT Tryz.prog 89 = some (#[.int .i64 0, .int .u8 0, .int .i64 0], [(0, 1), (1, 2)]) := by kernel_rfl
theorem tb_buildT_93 : buildT Tryz.prog 93 = some (#[.string ByteArray.empty, .slice none 0 0, .string ByteArray.empty], [(0, 1), (1, 1), (2, 1)]) := by kernel_rfl
theorem tb_buildT_95 : buildT Tryz.prog 95 = some (#[.string ByteArray.empty, .slice none 0 0, .string ByteArray.empty, .int .i64 0, .bool false, .bool false, .int .u8 0, .int .i64 0, .int .u8 0, .int .i64 0], [(0, 3), (3, 1), (4, 1), (5, 1), (6, 2), (8, 2)]) := by kernel_rfl
theorem tb_callable_1 : callable Tryz.prog 1 = false := by kernel_rfl
theorem tb_callable_10 : callable Tryz.prog 10 = true := by kernel_rfl
theorem tb_callable_100 : callable Tryz.prog 100 = true := by kernel_rfl
theorem tb_callable_101 : callable Tryz.prog 101 = true := by kernel_rfl
theorem tb_callable_102 : callable Tryz.prog 102 = true := by kernel_rfl
theorem tb_callable_103 : callable Tryz.prog 103 = true := by kernel_rfl
theorem tb_callable_104 : callable Tryz.prog 104 = true := by kernel_rfl
theorem tb_callable_105 : callable Tryz.prog 105 = true := by kernel_rfl
theorem tb_callable_106 : callable Tryz.prog 106 = true := by kernel_rfl
theorem tb_callable_107 : callable Tryz.prog 107 = true := by kernel_rfl
theorem tb_callable_108 : callable Tryz.prog 108 = true := by kernel_rfl
theorem tb_callable_109 : callable Tryz.prog 109 = true := by kernel_rfl
theorem tb_callable_11 : callable Tryz.prog 11 = true := by kernel_rfl
theorem tb_callable_12 : callable Tryz.prog 12 = true := by kernel_rfl
theorem tb_callable_13 : callable Tryz.prog 13 = true := by kernel_rfl
theorem tb_callable_14 : callable Tryz.prog 14 = true := by kernel_rfl
theorem tb_callable_15 : callable Tryz.prog 15 = true := by kernel_rfl
theorem tb_callable_16 : callable Tryz.prog 16 = true := by kernel_rfl
theorem tb_callable_17 : callable Tryz.prog 17 = true := by kernel_rfl
theorem tb_callable_18 : callable Tryz.prog 18 = true := by kernel_rfl
theorem tb_callable_19 : callable Tryz.prog 19 = true := by kernel_rfl
theorem tb_callable_2 : callable Tryz.prog 2 = true := by kernel_rfl
theorem tb_callable_20 : callable Tryz.prog 20 = true := by kernel_rfl
theorem tb_callable_21 : callable Tryz.prog 21 = true := by kernel_rfl
theorem tb_callable_22 : callable Tryz.prog 22 = true := by kernel_rfl
theorem tb_callable_23 : callable Tryz.prog 23 = true := by kernel_rfl
theorem tb_callable_24 : callable Tryz.prog 24 = true := by kernel_rfl
theorem tb_callable_25 : callable Tryz.prog 25 = true := by kernel_rfl
theorem tb_callable_26 : callable Tryz.prog 26 = true := by kernel_rfl
theorem tb_callable_27 : callable Tryz.prog 27 = true := by kernel_rfl
theorem tb_callable_28 : callable Tryz.prog 28 = true := by kernel_rfl
theorem tb_callable_29 : callable Tryz.prog 29 = true := by kernel_rfl
theorem tb_callable_3 : callable Tryz.prog 3 = true := by kernel_rfl
theorem tb_callable_30 : callable Tryz.prog 30 = true := by kernel_rfl
theorem tb_callable_31 : callable Tryz.prog 31 = true := by kernel_rfl
theorem tb_callable_32 : callable Tryz.prog 32 = true := by kernel_rfl
theorem tb_callable_33 : callable Tryz.prog 33 = true := by kernel_rfl
theorem tb_callable_34 : callable Tryz.prog 34 = true := by kernel_rfl
theorem tb_callable_35 : callable Tryz.prog 35 = true := by kernel_rfl
theorem tb_callable_36 : callable Tryz.prog 36 = true := by kernel_rfl
theorem tb_callable_37 : callable Tryz.prog 37 = true := by kernel_rfl
theorem tb_callable_38 : callable Tryz.prog 38 = true := by kernel_rfl
theorem tb_callable_39 : callable Tryz.prog 39 = true := by kernel_rfl
theorem tb_callable_4 : callable Tryz.prog 4 = true := by kernel_rfl
theorem tb_callable_40 : callable Tryz.prog 40 = true := by kernel_rfl
theorem tb_callable_41 : callable Tryz.prog 41 = true := by kernel_rfl
theorem tb_callable_42 : callable Tryz.prog 42 = true := by kernel_rfl
theorem tb_callable_43 : callable Tryz.prog 43 = true := by kernel_rfl
theorem tb_callable_44 : callable Tryz.prog 44 = true := by kernel_rfl
theorem tb_callable_45 : callable Tryz.prog 45 = true := by kernel_rfl
theorem tb_callable_46 : callable Tryz.prog 46 = true := by kernel_rfl
theorem tb_callable_47 : callable Tryz.prog 47 = true := by kernel_rfl
theorem tb_callable_48 : callable Tryz.prog 48 = true := by kernel_rfl
theorem tb_callable_49 : callable Tryz.prog 49 = true := by kernel_rfl
theorem tb_callable_5 : callable Tryz.prog 5 = true := by kernel_rfl
theorem tb_callable_50 : callable Tryz.prog 50 = true := by kernel_rfl
theorem tb_callable_51 : callable Tryz.prog 51 = true := by kernel_rfl
theorem tb_callable_52 : callable Tryz.prog 52 = true := by kernel_rfl
theorem tb_callable_53 : callable Tryz.prog 53 = true := by kernel_rfl
theorem tb_callable_54 : callable Tryz.prog 54 = true := by kernel_rfl
theorem tb_callable_55 : callable Tryz.prog 55 = true := by kernel_rfl
theorem tb_callable_56 : callable Tryz.prog 56 = true := by kernel_rfl
theorem tb_callable_57 : callable Tryz.prog 57 = true := by kernel_rfl
theorem tb_callable_58 : callable Tryz.prog 58 = true := by kernel_rfl
theorem tb_callable_59 : callable Tryz.prog 59 = true := by kernel_rfl
theorem tb_callable_6 : callable Tryz.prog 6 = true := by kernel_rfl
theorem tb_callable_60 : callable Tryz.prog 60 = true := by kernel_rfl
theorem tb_callable_61 : callable Tryz.prog 61 = true := by kernel_rfl
theorem tb_callable_62 : callable Tryz.prog 62 = true := by kernel_rfl
theorem tb_callable_63 : callable Tryz.prog 63 = true := by kernel_rfl
theorem tb_callable_64 : callable Tryz.prog 64 = true := by kernel_rfl
theorem tb_callable_65 : callable Tryz.prog 65 = true := by kernel_rfl
theorem tb_callable_66 : callable Tryz.prog 66 = true := by kernel_rfl
theorem tb_callable_67 : callable Tryz.prog 67 = true := by kernel_rfl
theorem tb_callable_68 : callable Tryz.prog 68 = true := by kernel_rfl
theorem tb_callable_69 : callable Tryz.prog 69 = true := by kernel_rfl
theorem tb_callable_7 : callable Tryz.prog 7 = true := by kernel_rfl
theorem tb_callable_70 : callable Tryz.prog 70 = true := by kernel_rfl
theorem tb_callable_71 : callable Tryz.prog 71 = true := by kernel_rfl
theorem tb_callable_72 : callable Tryz.prog 72 = true := by kernel_rfl
theorem tb_callable_73 : callable Tryz.prog 73 = true := by kernel_rfl
theorem tb_callable_74 : callable Tryz.prog 74 = true := by kernel_rfl
theorem tb_callable_75 : callable Tryz.prog 75 = true := by kernel_rfl
theorem tb_callable_76 : callable Tryz.prog 76 = true := by kernel_rfl
theorem tb_callable_77 : callable Tryz.prog 77 = true := by kernel_rfl
theorem tb_callable_78 : callable Tryz.prog 78 = true := by kernel_rfl
theorem tb_callable_79 : callable Tryz.prog 79 = true := by kernel_rfl
theorem tb_callable_8 : callable Tryz.prog 8 = true := by kernel_rfl
theorem tb_callable_80 : callable Tryz.prog 80 = true := by kernel_rfl
theorem tb_callable_81 : callable Tryz.prog 81 = true := by kernel_rfl
theorem tb_callable_82 : callable Tryz.prog 82 = true := by kernel_rfl
theorem tb_callable_83 : callable Tryz.prog 83 = true := by kernel_rfl
theorem tb_callable_84 : callable Tryz.prog 84 = true := by kernel_rfl
theorem tb_callable_85 : callable Tryz.prog 85 = true := by kernel_rfl
theorem tb_callable_86 : callable Tryz.prog 86 = true := by kernel_rfl
theorem tb_callable_87 : callable Tryz.prog 87 = false := by kernel_rfl
theorem tb_callable_88 : callable Tryz.prog 88 = true := by kernel_rfl
theorem tb_callable_89 : callable Tryz.prog 89 = true := by kernel_rfl
theorem tb_callable_9 : callable Tryz.prog 9 = true := by kernel_rfl
theorem tb_callable_90 : callable Tryz.prog 90 = true := by kernel_rfl
theorem tb_callable_91 : callable Tryz.prog 91 = true := by kernel_rfl
theorem tb_callable_92 : callable Tryz.prog 92 = true := by kernel_rfl
theorem tb_callable_93 : callable Tryz.prog 93 = true := by kernel_rfl
theorem tb_callable_94 : callable Tryz.prog 94 = true := by kernel_rfl
theorem tb_callable_95 : callable Tryz.prog 95 = true := by kernel_rfl
theorem tb_callable_96 : callable Tryz.prog 96 = true := by kernel_rfl
theorem tb_callable_97 : callable Tryz.prog 97 = true := by kernel_rfl
theorem tb_callable_98 : callable Tryz.prog 98 = true := by kernel_rfl
theorem tb_callable_99 : callable Tryz.prog 99 = true := by kernel_rfl
theorem tb_cellsT_112 : cellsT Tryz.prog 112 = some 1 := by kernel_rfl
theorem tb_cellsT_113 : cellsT Tryz.prog 113 = some 1 := by kernel_rfl
theorem tb_cellsT_115 : cellsT Tryz.prog 115 = some 1 := by kernel_rfl
theorem tb_cellsT_116 : cellsT Tryz.prog 116 = some 1 := by kernel_rfl
theorem tb_cellsT_117 : cellsT Tryz.prog 117 = some 1 := by kernel_rfl
theorem tb_cellsT_119 : cellsT Tryz.prog 119 = some 2 := by kernel_rfl
theorem tb_cellsT_120 : cellsT Tryz.prog 120 = some 1 := by kernel_rfl
theorem tb_cellsT_122 : cellsT Tryz.prog 122 = some 2 := by kernel_rfl
theorem tb_cellsT_123 : cellsT Tryz.prog 123 = some 1 := by kernel_rfl
theorem tb_cellsT_127 : cellsT Tryz.prog 127 = some 6 := by kernel_rfl
theorem tb_cellsT_128 : cellsT Tryz.prog 128 = some 1 := by kernel_rfl
theorem tb_cellsT_130 : cellsT Tryz.prog 130 = some 2 := by kernel_rfl
theorem tb_cellsT_131 : cellsT Tryz.prog 131 = some 1 := by kernel_rfl
theorem tb_cellsT_133 : cellsT Tryz.prog 133 = some 2 := by kernel_rfl
theorem tb_cellsT_134 : cellsT Tryz.prog 134 = some 1 := by kernel_rfl
theorem tb_cellsT_137 : cellsT Tryz.prog 137 = some 3 := by kernel_rfl
theorem tb_cellsT_138 : cellsT Tryz.prog 138 = some 1 := by kernel_rfl
theorem tb_cellsT_140 : cellsT Tryz.prog 140 = some 2 := by kernel_rfl
theorem tb_cellsT_141 : cellsT Tryz.prog 141 = some 1 := by kernel_rfl
theorem tb_cellsT_143 : cellsT Tryz.prog 143 = some 3 := by kernel_rfl
theorem tb_cellsT_144 : cellsT Tryz.prog 144 = some 1 := by kernel_rfl
theorem tb_cellsT_147 : cellsT Tryz.prog 147 = some 4 := by kernel_rfl
theorem tb_cellsT_148 : cellsT Tryz.prog 148 = some 1 := by kernel_rfl
theorem tb_cellsT_152 : cellsT Tryz.prog 152 = some 4 := by kernel_rfl
theorem tb_cellsT_153 : cellsT Tryz.prog 153 = some 1 := by kernel_rfl
theorem tb_cellsT_155 : cellsT Tryz.prog 155 = some 2 := by kernel_rfl
theorem tb_cellsT_156 : cellsT Tryz.prog 156 = some 1 := by kernel_rfl
theorem tb_cellsT_158 : cellsT Tryz.prog 158 = some 4 := by kernel_rfl
theorem tb_cellsT_159 : cellsT Tryz.prog 159 = some 1 := by kernel_rfl
theorem tb_cellsT_161 : cellsT Tryz.prog 161 = some 6 := by kernel_rfl
theorem tb_cellsT_162 : cellsT Tryz.prog 162 = some 1 := by kernel_rfl
theorem tb_cellsT_163 : cellsT Tryz.prog 163 = some 1 := by kernel_rfl
theorem tb_cellsT_165 : cellsT Tryz.prog 165 = some 4 := by kernel_rfl
theorem tb_cellsT_166 : cellsT Tryz.prog 166 = some 1 := by kernel_rfl
theorem tb_cellsT_168 : cellsT Tryz.prog 168 = some 3 := by kernel_rfl
theorem tb_cellsT_169 : cellsT Tryz.prog 169 = some 1 := by kernel_rfl
theorem tb_cellsT_171 : cellsT Tryz.prog 171 = some 2 := by kernel_rfl
theorem tb_cellsT_172 : cellsT Tryz.prog 172 = some 1 := by kernel_rfl
theorem tb_cellsT_174 : cellsT Tryz.prog 174 = some 2 := by kernel_rfl
theorem tb_cellsT_175 : cellsT Tryz.prog 175 = some 1 := by kernel_rfl
theorem tb_cellsT_177 : cellsT Tryz.prog 177 = some 3 := by kernel_rfl
theorem tb_cellsT_178 : cellsT Tryz.prog 178 = some 1 := by kernel_rfl
theorem tb_cellsT_180 : cellsT Tryz.prog 180 = some 3 := by kernel_rfl
theorem tb_cellsT_2 : cellsT Tryz.prog 2 = some 1 := by kernel_rfl
theorem tb_cellsT_200 : cellsT Tryz.prog 200 = some 1 := by kernel_rfl
theorem tb_cellsT_29 : cellsT Tryz.prog 29 = some 1 := by kernel_rfl
theorem tb_cellsT_3 : cellsT Tryz.prog 3 = some 1 := by kernel_rfl
theorem tb_cellsT_30 : cellsT Tryz.prog 30 = some 1 := by kernel_rfl
theorem tb_cellsT_31 : cellsT Tryz.prog 31 = some 1 := by kernel_rfl
theorem tb_cellsT_32 : cellsT Tryz.prog 32 = some 1 := by kernel_rfl
theorem tb_cellsT_33 : cellsT Tryz.prog 33 = some 1 := by kernel_rfl
theorem tb_cellsT_34 : cellsT Tryz.prog 34 = some 1 := by kernel_rfl
theorem tb_cellsT_35 : cellsT Tryz.prog 35 = some 1 := by kernel_rfl
theorem tb_cellsT_36 : cellsT Tryz.prog 36 = some 1 := by kernel_rfl
theorem tb_cellsT_37 : cellsT Tryz.prog 37 = some 1 := by kernel_rfl
theorem tb_cellsT_38 : cellsT Tryz.prog 38 = some 1 := by kernel_rfl
theorem tb_cellsT_39 : cellsT Tryz.prog 39 = some 1 := by kernel_rfl
theorem tb_cellsT_4 : cellsT Tryz.prog 4 = some 1 := by kernel_rfl
theorem tb_cellsT_40 : cellsT Tryz.prog 40 = some 1 := by kernel_rfl
theorem tb_cellsT_41 : cellsT Tryz.prog 41 = some 1 := by kernel_rfl
theorem tb_cellsT_42 : cellsT Tryz.prog 42 = some 1 := by kernel_rfl
theorem tb_cellsT_43 : cellsT Tryz.prog 43 = some 1 := by kernel_rfl
theorem tb_cellsT_44 : cellsT Tryz.prog 44 = some 1 := by kernel_rfl
theorem tb_cellsT_45 : cellsT Tryz.prog 45 = some 1 := by kernel_rfl
theorem tb_cellsT_46 : cellsT Tryz.prog 46 = some 1 := by kernel_rfl
theorem tb_cellsT_47 : cellsT Tryz.prog 47 = some 1 := by kernel_rfl
theorem tb_cellsT_48 : cellsT Tryz.prog 48 = some 1 := by kernel_rfl
theorem tb_cellsT_49 : cellsT Tryz.prog 49 = some 1 := by kernel_rfl
theorem tb_cellsT_5 : cellsT Tryz.prog 5 = some 1 := by kernel_rfl
theorem tb_cellsT_50 : cellsT Tryz.prog 50 = some 1 := by kernel_rfl
theorem tb_cellsT_51 : cellsT Tryz.prog 51 = some 1 := by kernel_rfl
theorem tb_cellsT_52 : cellsT Tryz.prog 52 = some 1 := by kernel_rfl
theorem tb_cellsT_53 : cellsT Tryz.prog 53 = some 1 := by kernel_rfl
theorem tb_cellsT_54 : cellsT Tryz.prog 54 = some 1 := by kernel_rfl
theorem tb_cellsT_55 : cellsT Tryz.prog 55 = some 1 := by kernel_rfl
theorem tb_cellsT_56 : cellsT Tryz.prog 56 = some 1 := by kernel_rfl
theorem tb_cellsT_58 : cellsT Tryz.prog 58 = some 28 := by kernel_rfl
theorem tb_cellsT_61 : cellsT Tryz.prog 61 = some 2 := by kernel_rfl
theorem tb_cellsT_62 : cellsT Tryz.prog 62 = some 1 := by kernel_rfl
theorem tb_cellsT_64 : cellsT Tryz.prog 64 = some 6 := by kernel_rfl
theorem tb_cellsT_68 : cellsT Tryz.prog 68 = some 1 := by kernel_rfl
theorem tb_cellsT_72 : cellsT Tryz.prog 72 = some 1 := by kernel_rfl
theorem tb_cellsT_89 : cellsT Tryz.prog 89 = some 3 := by kernel_rfl
theorem tb_cellsT_9 : cellsT Tryz.prog 9 = some 1 := by kernel_rfl
theorem tb_cellsT_91 : cellsT Tryz.prog 91 = some 1 := by kernel_rfl
theorem tb_cellsT_93 : cellsT Tryz.prog 93 = some 3 := by kernel_rfl
theorem tb_cellsT_95 : cellsT Tryz.prog 95 = some 10 := by kernel_rfl
theorem tb_convT_109_196 : convT Tryz.prog 109 196 = .toInt .u32 := by kernel_rfl
theorem tb_convT_109_3 : convT Tryz.prog 109 3 = .toInt .i64 := by kernel_rfl
theorem tb_convT_112_9 : convT Tryz.prog 112 9 = .strStr := by kernel_rfl
theorem tb_convT_117_5 : convT Tryz.prog 117 5 = .toInt .u8 := by kernel_rfl
theorem tb_convT_196_5 : convT Tryz.prog 196 5 = .toInt .u8 := by kernel_rfl
theorem tb_convT_3_109 : convT Tryz.prog 3 109 = .toInt .u64 := by kernel_rfl
theorem tb_convT_3_117 : convT Tryz.prog 3 117 = .toInt .u64 := by kernel_rfl
theorem tb_convT_3_200 : convT Tryz.prog 3 200 = .toInt .u64 := by kernel_rfl
theorem tb_convT_3_5 : convT Tryz.prog 3 5 = .toInt .u8 := by kernel_rfl
theorem tb_convT_5_3 : convT Tryz.prog 5 3 = .toInt .i64 := by kernel_rfl
theorem tb_eqT_119 : eqT Tryz.prog 119 = .struct := by kernel_rfl
theorem tb_eqT_122 : eqT Tryz.prog 122 = .struct := by kernel_rfl
theorem tb_eqT_127 : eqT Tryz.prog 127 = .struct := by kernel_rfl
theorem tb_eqT_130 : eqT Tryz.prog 130 = .struct := by kernel_rfl
theorem tb_eqT_133 : eqT Tryz.prog 133 = .struct := by kernel_rfl
theorem tb_eqT_137 : eqT Tryz.prog 137 = .struct := by kernel_rfl
theorem tb_eqT_140 : eqT Tryz.prog 140 = .struct := by kernel_rfl
theorem tb_eqT_143 : eqT Tryz.prog 143 = .struct := by kernel_rfl
theorem tb_eqT_147 : eqT Tryz.prog 147 = .struct := by kernel_rfl
theorem tb_eqT_152 : eqT Tryz.prog 152 = .struct := by kernel_rfl
theorem tb_eqT_155 : eqT Tryz.prog 155 = .struct := by kernel_rfl
theorem tb_eqT_24 : eqT Tryz.prog 24 = .ptr := by kernel_rfl
theorem tb_eqT_26 : eqT Tryz.prog 26 = .ptr := by kernel_rfl
theorem tb_eqT_4 : eqT Tryz.prog 4 = .bool := by kernel_rfl
theorem tb_eqT_61 : eqT Tryz.prog 61 = .struct := by kernel_rfl
theorem tb_eqT_62 : eqT Tryz.prog 62 = .sl := by kernel_rfl
theorem tb_eqT_89 : eqT Tryz.prog 89 = .struct := by kernel_rfl
theorem tb_fieldOff_158_0 : fieldOff Tryz.prog 158 0 = some 0 := by kernel_rfl
theorem tb_fieldOff_161_1 : fieldOff Tryz.prog 161 1 = some 3 := by kernel_rfl
theorem tb_fieldOff_165_2 : fieldOff Tryz.prog 165 2 = some 3 := by kernel_rfl
theorem tb_fieldOff_168_0 : fieldOff Tryz.prog 168 0 = some 0 := by kernel_rfl
theorem tb_fieldOff_171_0 : fieldOff Tryz.prog 171 0 = some 0 := by kernel_rfl
theorem tb_fieldOff_174_0 : fieldOff Tryz.prog 174 0 = some 0 := by kernel_rfl
theorem tb_fieldOff_177_0 : fieldOff Tryz.prog 177 0 = some 0 := by kernel_rfl
theorem tb_fieldOff_180_0 : fieldOff Tryz.prog 180 0 = some 0 := by kernel_rfl
theorem tb_fieldOff_58_0 : fieldOff Tryz.prog 58 0 = some 0 := by kernel_rfl
theorem tb_fieldOff_58_1 : fieldOff Tryz.prog 58 1 = some 1 := by kernel_rfl
theorem tb_fieldOff_58_10 : fieldOff Tryz.prog 58 10 = some 10 := by kernel_rfl
theorem tb_fieldOff_58_11 : fieldOff Tryz.prog 58 11 = some 11 := by kernel_rfl
theorem tb_fieldOff_58_12 : fieldOff Tryz.prog 58 12 = some 12 := by kernel_rfl
theorem tb_fieldOff_58_13 : fieldOff Tryz.prog 58 13 = some 13 := by kernel_rfl
theorem tb_fieldOff_58_14 : fieldOff Tryz.prog 58 14 = some 14 := by kernel_rfl
theorem tb_fieldOff_58_15 : fieldOff Tryz.prog 58 15 = some 15 := by kernel_rfl
theorem tb_fieldOff_58_16 : fieldOff Tryz.prog 58 16 = some 16 := by kernel_rfl
theorem tb_fieldOff_58_17 : fieldOff Tryz.prog 58 17 = some 17 := by kernel_rfl
theorem tb_fieldOff_58_18 : fieldOff Tryz.prog 58 18 = some 18 := by kernel_rfl
theorem tb_fieldOff_58_19 : fieldOff Tryz.prog 58 19 = some 19 := by kernel_rfl
theorem tb_fieldOff_58_2 : fieldOff Tryz.prog 58 2 = some 2 := by kernel_rfl
theorem tb_fieldOff_58_20 : fieldOff Tryz.prog 58 20 = some 20 := by kernel_rfl
theorem tb_fieldOff_58_21 : fieldOff Tryz.prog 58 21 = some 21 := by kernel_rfl
theorem tb_fieldOff_58_22 : fieldOff Tryz.prog 58 22 = some 22 := by kernel_rfl
theorem tb_fieldOff_58_23 : fieldOff Tryz.prog 58 23 = some 23 := by kernel_rfl
theorem tb_fieldOff_58_24 : fieldOff Tryz.prog 58 24 = some 24 := by kernel_rfl
theorem tb_fieldOff_58_25 : fieldOff Tryz.prog 58 25 = some 25 := by kernel_rfl
theorem tb_fieldOff_58_26 : fieldOff Tryz.prog 58 26 = some 26 := by kernel_rfl
theorem tb_fieldOff_58_27 : fieldOff Tryz.prog 58 27 = some 27 := by kernel_rfl
theorem tb_fieldOff_58_3 : fieldOff Tryz.prog 58 3 = some 3 := by kernel_rfl
theorem tb_fieldOff_58_4 : fieldOff Tryz.prog 58 4 = some 4 := by kernel_rfl
theorem tb_fieldOff_58_5 : fieldOff Tryz.prog 58 5 = some 5 := by kernel_rfl
theorem tb_fieldOff_58_6 : fieldOff Tryz.prog 58 6 = some 6 := by kernel_rfl
theorem tb_fieldOff_58_7 : fieldOff Tryz.prog 58 7 = some 7 := by kernel_rfl
theorem tb_fieldOff_58_8 : fieldOff Tryz.prog 58 8 = some 8 := by kernel_rfl
theorem tb_fieldOff_58_9 : fieldOff Tryz.prog 58 9 = some 9 := by kernel_rfl
theorem tb_fieldOff_61_1 : fieldOff Tryz.prog 61 1 = some 1 := by kernel_rfl
theorem tb_fieldOff_64_0 : fieldOff Tryz.prog 64 0 = some 0 := by kernel_rfl
theorem tb_fieldOff_64_1 : fieldOff Tryz.prog 64 1 = some 1 := by kernel_rfl
theorem tb_fieldOff_64_2 : fieldOff Tryz.prog 64 2 = some 2 := by kernel_rfl
theorem tb_fieldOff_64_3 : fieldOff Tryz.prog 64 3 = some 3 := by kernel_rfl
theorem tb_fieldOff_64_4 : fieldOff Tryz.prog 64 4 = some 5 := by kernel_rfl
theorem tb_fieldOff_80_0 : fieldOff Tryz.prog 80 0 = some 0 := by kernel_rfl
theorem tb_fieldOff_82_0 : fieldOff Tryz.prog 82 0 = some 0 := by kernel_rfl
theorem tb_fieldOff_84_0 : fieldOff Tryz.prog 84 0 = some 0 := by kernel_rfl
theorem tb_fieldOff_89_0 : fieldOff Tryz.prog 89 0 = some 0 := by kernel_rfl
theorem tb_fieldOff_89_1 : fieldOff Tryz.prog 89 1 = some 1 := by kernel_rfl
theorem tb_fieldOff_93_0 : fieldOff Tryz.prog 93 0 = some 0 := by kernel_rfl
theorem tb_fieldOff_93_1 : fieldOff Tryz.prog 93 1 = some 1 := by kernel_rfl
theorem tb_fieldOff_93_2 : fieldOff Tryz.prog 93 2 = some 2 := by kernel_rfl
theorem tb_fieldOff_95_0 : fieldOff Tryz.prog 95 0 = some 0 := by kernel_rfl
theorem tb_fieldOff_95_1 : fieldOff Tryz.prog 95 1 = some 3 := by kernel_rfl
theorem tb_fieldOff_95_2 : fieldOff Tryz.prog 95 2 = some 4 := by kernel_rfl
theorem tb_fieldOff_95_3 : fieldOff Tryz.prog 95 3 = some 5 := by kernel_rfl
theorem tb_fieldOff_95_4 : fieldOff Tryz.prog 95 4 = some 6 := by kernel_rfl
theorem tb_fieldOff_95_5 : fieldOff Tryz.prog 95 5 = some 8 := by kernel_rfl
theorem tb_indexT_112 : indexT Tryz.prog 112 = some (.sl 1) := by kernel_rfl
theorem tb_indexT_113 : indexT Tryz.prog 113 = some (.sl 1) := by kernel_rfl
theorem tb_indexT_115 : indexT Tryz.prog 115 = some (.sl 1) := by kernel_rfl
theorem tb_indexT_116 : indexT Tryz.prog 116 = some (.sl 1) := by kernel_rfl
theorem tb_indexT_120 : indexT Tryz.prog 120 = some (.sl 2) := by kernel_rfl
theorem tb_indexT_123 : indexT Tryz.prog 123 = some (.sl 6) := by kernel_rfl
theorem tb_indexT_128 : indexT Tryz.prog 128 = some (.sl 2) := by kernel_rfl
theorem tb_indexT_131 : indexT Tryz.prog 131 = some (.sl 2) := by kernel_rfl
theorem tb_indexT_134 : indexT Tryz.prog 134 = some (.sl 3) := by kernel_rfl
theorem tb_indexT_138 : indexT Tryz.prog 138 = some (.sl 2) := by kernel_rfl
theorem tb_indexT_141 : indexT Tryz.prog 141 = some (.sl 3) := by kernel_rfl
theorem tb_indexT_144 : indexT Tryz.prog 144 = some (.sl 4) := by kernel_rfl
theorem tb_indexT_148 : indexT Tryz.prog 148 = some (.sl 4) := by kernel_rfl
theorem tb_indexT_153 : indexT Tryz.prog 153 = some (.sl 2) := by kernel_rfl
theorem tb_indexT_156 : indexT Tryz.prog 156 = some (.sl 4) := by kernel_rfl
theorem tb_indexT_159 : indexT Tryz.prog 159 = some (.sl 6) := by kernel_rfl
theorem tb_indexT_162 : indexT Tryz.prog 162 = some (.sl 3) := by kernel_rfl
theorem tb_indexT_163 : indexT Tryz.prog 163 = some (.sl 4) := by kernel_rfl
theorem tb_indexT_166 : indexT Tryz.prog 166 = some (.sl 3) := by kernel_rfl
theorem tb_indexT_169 : indexT Tryz.prog 169 = some (.sl 2) := by kernel_rfl
theorem tb_indexT_172 : indexT Tryz.prog 172 = some (.sl 2) := by kernel_rfl
theorem tb_indexT_175 : indexT Tryz.prog 175 = some (.sl 3) := by kernel_rfl
theorem tb_indexT_178 : indexT Tryz.prog 178 = some (.sl 3) := by kernel_rfl
theorem tb_indexT_22 : indexT Tryz.prog 22 = some (.sl 6) := by kernel_rfl
theorem tb_indexT_29 : indexT Tryz.prog 29 = some (.sl 1) := by kernel_rfl
theorem tb_indexT_30 : indexT Tryz.prog 30 = some (.sl 1) := by kernel_rfl
theorem tb_indexT_31 : indexT Tryz.prog 31 = some (.sl 1) := by kernel_rfl
theorem tb_indexT_32 : indexT Tryz.prog 32 = some (.sl 1) := by kernel_rfl
theorem tb_indexT_33 : indexT Tryz.prog 33 = some (.sl 1) := by kernel_rfl
theorem tb_indexT_34 : indexT Tryz.prog 34 = some (.sl 1) := by kernel_rfl
theorem tb_indexT_35 : indexT Tryz.prog 35 = some (.sl 1) := by kernel_rfl
theorem tb_indexT_36 : indexT Tryz.prog 36 = some (.sl 1) := by kernel_rfl
theorem tb_indexT_37 : indexT Tryz.prog 37 = some (.sl 1) := by kernel_rfl
theorem tb_indexT_38 : indexT Tryz.prog 38 = some (.sl 1) := by kernel_rfl
theorem tb_indexT_39 : indexT Tryz.prog 39 = some (.sl 1) := by kernel_rfl
theorem tb_indexT_40 : indexT Tryz.prog 40 = some (.sl 1) := by kernel_rfl
theorem tb_indexT_41 : indexT Tryz.prog 41 = some (.sl 1) := by kernel_rfl
theorem tb_indexT_42 : indexT Tryz.prog 42 = some (.sl 1) := by kernel_rfl
theorem tb_indexT_43 : indexT Tryz.prog 43 = some (.sl 1) := by kernel_rfl
theorem tb_indexT_44 : indexT Tryz.prog 44 = some (.sl 1) := by kernel_rfl
theorem tb_indexT_45 : indexT Tryz.prog 45 = some (.sl 1) := by kernel_rfl
theorem tb_indexT_46 : indexT Tryz.prog 46 = some (.sl 1) := by kernel_rfl
theorem tb_indexT_47 : indexT Tryz.prog 47 = some (.sl 1) := by kernel_rfl
theorem tb_indexT_48 : indexT Tryz.prog 48 = some (.sl 1) := by kernel_rfl
theorem tb_indexT_49 : indexT Tryz.prog 49 = some (.sl 1) := by kernel_rfl
theorem tb_indexT_50 : indexT Tryz.prog 50 = some (.sl 1) := by kernel_rfl
theorem tb_indexT_51 : indexT Tryz.prog 51 = some (.sl 1) := by kernel_rfl
theorem tb_indexT_52 : indexT Tryz.prog 52 = some (.sl 1) := by kernel_rfl
theorem tb_indexT_53 : indexT Tryz.prog 53 = some (.sl 1) := by kernel_rfl
theorem tb_indexT_54 : indexT Tryz.prog 54 = some (.sl 1) := by kernel_rfl
theorem tb_indexT_55 : indexT Tryz.prog 55 = some (.sl 1) := by kernel_rfl
theorem tb_indexT_56 : indexT Tryz.prog 56 = some (.sl 1) := by kernel_rfl
theorem tb_indexT_62 : indexT Tryz.prog 62 = some (.sl 3) := by kernel_rfl
theorem tb_indexT_68 : indexT Tryz.prog 68 = some (.sl 10) := by kernel_rfl
theorem tb_indexT_72 : indexT Tryz.prog 72 = some (.sl 1) := by kernel_rfl
theorem tb_indexT_9 : indexT Tryz.prog 9 = some (.str) := by kernel_rfl
theorem tb_indexT_91 : indexT Tryz.prog 91 = some (.sl 2) := by kernel_rfl
theorem tb_isAggT_112 : isAggT Tryz.prog 112 = some false := by kernel_rfl
theorem tb_isAggT_113 : isAggT Tryz.prog 113 = some false := by kernel_rfl
theorem tb_isAggT_115 : isAggT Tryz.prog 115 = some false := by kernel_rfl
theorem tb_isAggT_116 : isAggT Tryz.prog 116 = some false := by kernel_rfl
theorem tb_isAggT_117 : isAggT Tryz.prog 117 = some false := by kernel_rfl
theorem tb_isAggT_119 : isAggT Tryz.prog 119 = some true := by kernel_rfl
theorem tb_isAggT_120 : isAggT Tryz.prog 120 = some false := by kernel_rfl
theorem tb_isAggT_122 : isAggT Tryz.prog 122 = some true := by kernel_rfl
theorem tb_isAggT_123 : isAggT Tryz.prog 123 = some false := by kernel_rfl
theorem tb_isAggT_127 : isAggT Tryz.prog 127 = some true := by kernel_rfl
theorem tb_isAggT_128 : isAggT Tryz.prog 128 = some false := by kernel_rfl
theorem tb_isAggT_130 : isAggT Tryz.prog 130 = some true := by kernel_rfl
theorem tb_isAggT_131 : isAggT Tryz.prog 131 = some false := by kernel_rfl
theorem tb_isAggT_133 : isAggT Tryz.prog 133 = some true := by kernel_rfl
theorem tb_isAggT_134 : isAggT Tryz.prog 134 = some false := by kernel_rfl
theorem tb_isAggT_137 : isAggT Tryz.prog 137 = some true := by kernel_rfl
theorem tb_isAggT_138 : isAggT Tryz.prog 138 = some false := by kernel_rfl
theorem tb_isAggT_140 : isAggT Tryz.prog 140 = some true := by kernel_rfl
theorem tb_isAggT_141 : isAggT Tryz.prog 141 = some false := by kernel_rfl
theorem tb_isAggT_143 : isAggT Tryz.prog 143 = some true := by kernel_rfl
theorem tb_isAggT_144 : isAggT Tryz.prog 144 = some false := by kernel_rfl
theorem tb_isAggT_147 : isAggT Tryz.prog 147 = some true := by kernel_rfl
theorem tb_isAggT_148 : isAggT Tryz.prog 148 = some false := by kernel_rfl
theorem tb_isAggT_152 : isAggT Tryz.prog 152 = some true := by kernel_rfl
theorem tb_isAggT_153 : isAggT Tryz.prog 153 = some false := by kernel_rfl
theorem tb_isAggT_155 : isAggT Tryz.prog 155 = some true := by kernel_rfl
theorem tb_isAggT_156 : isAggT Tryz.prog 156 = some false := by kernel_rfl
theorem tb_isAggT_158 : isAggT Tryz.prog 158 = some true := by kernel_rfl
theorem tb_isAggT_159 : isAggT Tryz.prog 159 = some false := by kernel_rfl
theorem tb_isAggT_161 : isAggT Tryz.prog 161 = some true := by kernel_rfl
theorem tb_isAggT_162 : isAggT Tryz.prog 162 = some false := by kernel_rfl
theorem tb_isAggT_163 : isAggT Tryz.prog 163 = some false := by kernel_rfl
theorem tb_isAggT_165 : isAggT Tryz.prog 165 = some true := by kernel_rfl
theorem tb_isAggT_166 : isAggT Tryz.prog 166 = some false := by kernel_rfl
theorem tb_isAggT_168 : isAggT Tryz.prog 168 = some true := by kernel_rfl
theorem tb_isAggT_169 : isAggT Tryz.prog 169 = some false := by kernel_rfl
theorem tb_isAggT_171 : isAggT Tryz.prog 171 = some true := by kernel_rfl
theorem tb_isAggT_172 : isAggT Tryz.prog 172 = some false := by kernel_rfl
theorem tb_isAggT_174 : isAggT Tryz.prog 174 = some true := by kernel_rfl
theorem tb_isAggT_175 : isAggT Tryz.prog 175 = some false := by kernel_rfl
theorem tb_isAggT_177 : isAggT Tryz.prog 177 = some true := by kernel_rfl
theorem tb_isAggT_178 : isAggT Tryz.prog 178 = some false := by kernel_rfl
theorem tb_isAggT_180 : isAggT Tryz.prog 180 = some true := by kernel_rfl
theorem tb_isAggT_2 : isAggT Tryz.prog 2 = some false := by kernel_rfl
theorem tb_isAggT_200 : isAggT Tryz.prog 200 = some false := by kernel_rfl
theorem tb_isAggT_29 : isAggT Tryz.prog 29 = some false := by kernel_rfl
theorem tb_isAggT_3 : isAggT Tryz.prog 3 = some false := by kernel_rfl
theorem tb_isAggT_30 : isAggT Tryz.prog 30 = some false := by kernel_rfl
theorem tb_isAggT_31 : isAggT Tryz.prog 31 = some false := by kernel_rfl
theorem tb_isAggT_32 : isAggT Tryz.prog 32 = some false := by kernel_rfl
theorem tb_isAggT_33 : isAggT Tryz.prog 33 = some false := by kernel_rfl
theorem tb_isAggT_34 : isAggT Tryz.prog 34 = some false := by kernel_rfl
theorem tb_isAggT_35 : isAggT Tryz.prog 35 = some false := by kernel_rfl
theorem tb_isAggT_36 : isAggT Tryz.prog 36 = some false := by kernel_rfl
theorem tb_isAggT_37 : isAggT Tryz.prog 37 = some false := by kernel_rfl
theorem tb_isAggT_38 : isAggT Tryz.prog 38 = some false := by kernel_rfl
theorem tb_isAggT_39 : isAggT Tryz.prog 39 = some false := by kernel_rfl
theorem tb_isAggT_4 : isAggT Tryz.prog 4 = some false := by kernel_rfl
theorem tb_isAggT_40 : isAggT Tryz.prog 40 = some false := by kernel_rfl
theorem tb_isAggT_41 : isAggT Tryz.prog 41 = some false := by kernel_rfl
theorem tb_isAggT_42 : isAggT Tryz.prog 42 = some false := by kernel_rfl
theorem tb_isAggT_43 : isAggT Tryz.prog 43 = some false := by kernel_rfl
theorem tb_isAggT_44 : isAggT Tryz.prog 44 = some false := by kernel_rfl
theorem tb_isAggT_45 : isAggT Tryz.prog 45 = some false := by kernel_rfl
theorem tb_isAggT_46 : isAggT Tryz.prog 46 = some false := by kernel_rfl
theorem tb_isAggT_47 : isAggT Tryz.prog 47 = some false := by kernel_rfl
theorem tb_isAggT_48 : isAggT Tryz.prog 48 = some false := by kernel_rfl
theorem tb_isAggT_49 : isAggT Tryz.prog 49 = some false := by kernel_rfl
theorem tb_isAggT_5 : isAggT Tryz.prog 5 = some false := by kernel_rfl
theorem tb_isAggT_50 : isAggT Tryz.prog 50 = some false := by kernel_rfl
theorem tb_isAggT_51 : isAggT Tryz.prog 51 = some false := by kernel_rfl
theorem tb_isAggT_52 : isAggT Tryz.prog 52 = some false := by kernel_rfl
theorem tb_isAggT_53 : isAggT Tryz.prog 53 = some false := by kernel_rfl
theorem tb_isAggT_54 : isAggT Tryz.prog 54 = some false := by kernel_rfl
theorem tb_isAggT_55 : isAggT Tryz.prog 55 = some false := by kernel_rfl
theorem tb_isAggT_56 : isAggT Tryz.prog 56 = some false := by kernel_rfl
theorem tb_isAggT_58 : isAggT Tryz.prog 58 = some true := by kernel_rfl
theorem tb_isAggT_61 : isAggT Tryz.prog 61 = some true := by kernel_rfl
theorem tb_isAggT_62 : isAggT Tryz.prog 62 = some false := by kernel_rfl
theorem tb_isAggT_64 : isAggT Tryz.prog 64 = some true := by kernel_rfl
theorem tb_isAggT_68 : isAggT Tryz.prog 68 = some false := by kernel_rfl
theorem tb_isAggT_72 : isAggT Tryz.prog 72 = some false := by kernel_rfl
theorem tb_isAggT_89 : isAggT Tryz.prog 89 = some true := by kernel_rfl
theorem tb_isAggT_9 : isAggT Tryz.prog 9 = some false := by kernel_rfl
theorem tb_isAggT_91 : isAggT Tryz.prog 91 = some false := by kernel_rfl
theorem tb_isAggT_93 : isAggT Tryz.prog 93 = some true := by kernel_rfl
theorem tb_isAggT_95 : isAggT Tryz.prog 95 = some true := by kernel_rfl
theorem tb_lenT_112 : lenT Tryz.prog 112 = .sl := by kernel_rfl
theorem tb_lenT_113 : lenT Tryz.prog 113 = .sl := by kernel_rfl
theorem tb_lenT_115 : lenT Tryz.prog 115 = .sl := by kernel_rfl
theorem tb_lenT_116 : lenT Tryz.prog 116 = .sl := by kernel_rfl
theorem tb_lenT_120 : lenT Tryz.prog 120 = .sl := by kernel_rfl
theorem tb_lenT_123 : lenT Tryz.prog 123 = .sl := by kernel_rfl
theorem tb_lenT_128 : lenT Tryz.prog 128 = .sl := by kernel_rfl
theorem tb_lenT_131 : lenT Tryz.prog 131 = .sl := by kernel_rfl
theorem tb_lenT_134 : lenT Tryz.prog 134 = .sl := by kernel_rfl
theorem tb_lenT_138 : lenT Tryz.prog 138 = .sl := by kernel_rfl
theorem tb_lenT_141 : lenT Tryz.prog 141 = .sl := by kernel_rfl
theorem tb_lenT_144 : lenT Tryz.prog 144 = .sl := by kernel_rfl
theorem tb_lenT_148 : lenT Tryz.prog 148 = .sl := by kernel_rfl
theorem tb_lenT_153 : lenT Tryz.prog 153 = .sl := by kernel_rfl
theorem tb_lenT_156 : lenT Tryz.prog 156 = .sl := by kernel_rfl
theorem tb_lenT_159 : lenT Tryz.prog 159 = .sl := by kernel_rfl
theorem tb_lenT_162 : lenT Tryz.prog 162 = .sl := by kernel_rfl
theorem tb_lenT_163 : lenT Tryz.prog 163 = .sl := by kernel_rfl
theorem tb_lenT_166 : lenT Tryz.prog 166 = .sl := by kernel_rfl
theorem tb_lenT_169 : lenT Tryz.prog 169 = .sl := by kernel_rfl
theorem tb_lenT_172 : lenT Tryz.prog 172 = .sl := by kernel_rfl
theorem tb_lenT_175 : lenT Tryz.prog 175 = .sl := by kernel_rfl
theorem tb_lenT_178 : lenT Tryz.prog 178 = .sl := by kernel_rfl
theorem tb_lenT_22 : lenT Tryz.prog 22 = .sl := by kernel_rfl
theorem tb_lenT_29 : lenT Tryz.prog 29 = .sl := by kernel_rfl
theorem tb_lenT_30 : lenT Tryz.prog 30 = .sl := by kernel_rfl
theorem tb_lenT_31 : lenT Tryz.prog 31 = .sl := by kernel_rfl
theorem tb_lenT_32 : lenT Tryz.prog 32 = .sl := by kernel_rfl
theorem tb_lenT_33 : lenT Tryz.prog 33 = .sl := by kernel_rfl
theorem tb_lenT_34 : lenT Tryz.prog 34 = .sl := by kernel_rfl
theorem tb_lenT_35 : lenT Tryz.prog 35 = .sl := by kernel_rfl
theorem tb_lenT_36 : lenT Tryz.prog 36 = .sl := by kernel_rfl
theorem tb_lenT_37 : lenT Tryz.prog 37 = .sl := by kernel_rfl
theorem tb_lenT_38 : lenT Tryz.prog 38 = .sl := by kernel_rfl
theorem tb_lenT_39 : lenT Tryz.prog 39 = .sl := by kernel_rfl
theorem tb_lenT_40 : lenT Tryz.prog 40 = .sl := by kernel_rfl
theorem tb_lenT_41 : lenT Tryz.prog 41 = .sl := by kernel_rfl
theorem tb_lenT_42 : lenT Tryz.prog 42 = .sl := by kernel_rfl
theorem tb_lenT_43 : lenT Tryz.prog 43 = .sl := by kernel_rfl
theorem tb_lenT_44 : lenT Tryz.prog 44 = .sl := by kernel_rfl
theorem tb_lenT_45 : lenT Tryz.prog 45 = .sl := by kernel_rfl
theorem tb_lenT_46 : lenT Tryz.prog 46 = .sl := by kernel_rfl
theorem tb_lenT_47 : lenT Tryz.prog 47 = .sl := by kernel_rfl
theorem tb_lenT_48 : lenT Tryz.prog 48 = .sl := by kernel_rfl
theorem tb_lenT_49 : lenT Tryz.prog 49 = .sl := by kernel_rfl
theorem tb_lenT_50 : lenT Tryz.prog 50 = .sl := by kernel_rfl
theorem tb_lenT_51 : lenT Tryz.prog 51 = .sl := by kernel_rfl
theorem tb_lenT_52 : lenT Tryz.prog 52 = .sl := by kernel_rfl
theorem tb_lenT_53 : lenT Tryz.prog 53 = .sl := by kernel_rfl
theorem tb_lenT_54 : lenT Tryz.prog 54 = .sl := by kernel_rfl
theorem tb_lenT_55 : lenT Tryz.prog 55 = .sl := by kernel_rfl
theorem tb_lenT_56 : lenT Tryz.prog 56 = .sl := by kernel_rfl
theorem tb_lenT_62 : lenT Tryz.prog 62 = .sl := by kernel_rfl
theorem tb_lenT_68 : lenT Tryz.prog 68 = .sl := by kernel_rfl
theorem tb_lenT_72 : lenT Tryz.prog 72 = .sl := by kernel_rfl
theorem tb_lenT_91 : lenT Tryz.prog 91 = .sl := by kernel_rfl
theorem tb_res_10 : Tryz.f10.results.toList = [] := by kernel_rfl
theorem tb_res_100 : Tryz.f100.results.toList = [.tmp 4] := by kernel_rfl
theorem tb_res_101 : Tryz.f101.results.toList = [.tmp 2] := by kernel_rfl
theorem tb_res_102 : Tryz.f102.results.toList = [] := by kernel_rfl
theorem tb_res_103 : Tryz.f103.results.toList = [] := by kernel_rfl
theorem tb_res_104 : Tryz.f104.results.toList = [.tmp 2] := by kernel_rfl
theorem tb_res_105 : Tryz.f105.results.toList = [.tmp 2] := by kernel_rfl
theorem tb_res_106 : Tryz.f106.results.toList = [.tmp 6] := by kernel_rfl
theorem tb_res_107 : Tryz.f107.results.toList = [.tmp 10] := by kernel_rfl
theorem tb_res_108 : Tryz.f108.results.toList = [] := by kernel_rfl
theorem tb_res_109 : Tryz.f109.results.toList = [.tmp 8, .tmp 9] := by kernel_rfl
theorem tb_res_11 : Tryz.f11.results.toList = [.tmp 4] := by kernel_rfl
theorem tb_res_12 : Tryz.f12.results.toList = [.tmp 4] := by kernel_rfl
theorem tb_res_13 : Tryz.f13.results.toList = [.tmp 6] := by kernel_rfl
theorem tb_res_14 : Tryz.f14.results.toList = [.tmp 6] := by kernel_rfl
theorem tb_res_15 : Tryz.f15.results.toList = [.tmp 2] := by kernel_rfl
theorem tb_res_16 : Tryz.f16.results.toList = [.tmp 6] := by kernel_rfl
theorem tb_res_17 : Tryz.f17.results.toList = [.tmp 2] := by kernel_rfl
theorem tb_res_18 : Tryz.f18.results.toList = [.cell 6 61, .tmp 7] := by kernel_rfl
theorem tb_res_19 : Tryz.f19.results.toList = [.cell 4 61, .tmp 5] := by kernel_rfl
theorem tb_res_2 : Tryz.f2.results.toList = [] := by kernel_rfl
theorem tb_res_20 : Tryz.f20.results.toList = [.tmp 2] := by kernel_rfl
theorem tb_res_21 : Tryz.f21.results.toList = [.tmp 6, .tmp 7] := by kernel_rfl
theorem tb_res_22 : Tryz.f22.results.toList = [.tmp 2] := by kernel_rfl
theorem tb_res_23 : Tryz.f23.results.toList = [.tmp 6] := by kernel_rfl
theorem tb_res_24 : Tryz.f24.results.toList = [.cell 4 61, .tmp 5] := by kernel_rfl
theorem tb_res_25 : Tryz.f25.results.toList = [] := by kernel_rfl
theorem tb_res_26 : Tryz.f26.results.toList = [.tmp 2] := by kernel_rfl
theorem tb_res_27 : Tryz.f27.results.toList = [] := by kernel_rfl
theorem tb_res_28 : Tryz.f28.results.toList = [.tmp 2] := by kernel_rfl
theorem tb_res_29 : Tryz.f29.results.toList = [.tmp 2] := by kernel_rfl
theorem tb_res_3 : Tryz.f3.results.toList = [.tmp 2] := by kernel_rfl
theorem tb_res_30 : Tryz.f30.results.toList = [.cell 6 61, .tmp 7] := by kernel_rfl
theorem tb_res_31 : Tryz.f31.results.toList = [.cell 4 61, .tmp 5] := by kernel_rfl
theorem tb_res_32 : Tryz.f32.results.toList = [.cell 4 61, .tmp 5] := by kernel_rfl
theorem tb_res_33 : Tryz.f33.results.toList = [.tmp 4] := by kernel_rfl
theorem tb_res_34 : Tryz.f34.results.toList = [.tmp 2] := by kernel_rfl
theorem tb_res_35 : Tryz.f35.results.toList = [.tmp 4] := by kernel_rfl
theorem tb_res_36 : Tryz.f36.results.toList = [.tmp 4] := by kernel_rfl
theorem tb_res_37 : Tryz.f37.results.toList = [.tmp 2] := by kernel_rfl
theorem tb_res_38 : Tryz.f38.results.toList = [.tmp 2] := by kernel_rfl
theorem tb_res_39 : Tryz.f39.results.toList = [.tmp 2] := by kernel_rfl
theorem tb_res_4 : Tryz.f4.results.toList = [.tmp 0] := by kernel_rfl
theorem tb_res_40 : Tryz.f40.results.toList = [.tmp 2] := by kernel_rfl
theorem tb_res_41 : Tryz.f41.results.toList = [.tmp 2] := by kernel_rfl
theorem tb_res_42 : Tryz.f42.results.toList = [.tmp 2] := by kernel_rfl
theorem tb_res_43 : Tryz.f43.results.toList = [.tmp 2] := by kernel_rfl
theorem tb_res_44 : Tryz.f44.results.toList = [.tmp 2] := by kernel_rfl
theorem tb_res_45 : Tryz.f45.results.toList = [.tmp 2] := by kernel_rfl
theorem tb_res_46 : Tryz.f46.results.toList = [.tmp 2] := by kernel_rfl
theorem tb_res_47 : Tryz.f47.results.toList = [.tmp 2] := by kernel_rfl
theorem tb_res_48 : Tryz.f48.results.toList = [.tmp 2] := by kernel_rfl
theorem tb_res_49 : Tryz.f49.results.toList = [.tmp 2] := by kernel_rfl
theorem tb_res_5 : Tryz.f5.results.toList = [.tmp 0] := by kernel_rfl
theorem tb_res_50 : Tryz.f50.results.toList = [.tmp 2] := by kernel_rfl
theorem tb_res_51 : Tryz.f51.results.toList = [.tmp 2] := by kernel_rfl
theorem tb_res_52 : Tryz.f52.results.toList = [.tmp 2] := by kernel_rfl
theorem tb_res_53 : Tryz.f53.results.toList = [.tmp 2] := by kernel_rfl
theorem tb_res_54 : Tryz.f54.results.toList = [.tmp 2] := by kernel_rfl
theorem tb_res_55 : Tryz.f55.results.toList = [.tmp 2] := by kernel_rfl
theorem tb_res_56 : Tryz.f56.results.toList = [.tmp 2] := by kernel_rfl
theorem tb_res_57 : Tryz.f57.results.toList = [.tmp 2] := by kernel_rfl
theorem tb_res_58 : Tryz.f58.results.toList = [.tmp 2] := by kernel_rfl
theorem tb_res_59 : Tryz.f59.results.toList = [.tmp 2] := by kernel_rfl
theorem tb_res_6 : Tryz.f6.results.toList = [.tmp 0] := by kernel_rfl
theorem tb_res_60 : Tryz.f60.results.toList = [.tmp 2] := by kernel_rfl
theorem tb_res_61 : Tryz.f61.results.toList = [.tmp 2] := by kernel_rfl
theorem tb_res_62 : Tryz.f62.results.toList = [.tmp 2] := by kernel_rfl
theorem tb_res_63 : Tryz.f63.results.toList = [.tmp 2] := by kernel_rfl
theorem tb_res_64 : Tryz.f64.results.toList = [.tmp 2] := by kernel_rfl
theorem tb_res_65 : Tryz.f65.results.toList = [.cell 2 89, .tmp 3] := by kernel_rfl
theorem tb_res_66 : Tryz.f66.results.toList = [.cell 2 89, .tmp 3] := by kernel_rfl
theorem tb_res_67 : Tryz.f67.results.toList = [.cell 2 89, .tmp 3] := by kernel_rfl
theorem tb_res_68 : Tryz.f68.results.toList = [.cell 2 89, .tmp 3] := by kernel_rfl
theorem tb_res_69 : Tryz.f69.results.toList = [.tmp 2] := by kernel_rfl
theorem tb_res_7 : Tryz.f7.results.toList = [] := by kernel_rfl
theorem tb_res_70 : Tryz.f70.results.toList = [.cell 4 89, .tmp 5] := by kernel_rfl
theorem tb_res_71 : Tryz.f71.results.toList = [.cell 4 89, .tmp 5] := by kernel_rfl
theorem tb_res_72 : Tryz.f72.results.toList = [.cell 4 89, .tmp 5] := by kernel_rfl
theorem tb_res_73 : Tryz.f73.results.toList = [.cell 4 89, .tmp 5] := by kernel_rfl
theorem tb_res_74 : Tryz.f74.results.toList = [.tmp 4, .tmp 5] := by kernel_rfl
theorem tb_res_75 : Tryz.f75.results.toList = [.tmp 6] := by kernel_rfl
theorem tb_res_76 : Tryz.f76.results.toList = [.tmp 4] := by kernel_rfl
theorem tb_res_77 : Tryz.f77.results.toList = [] := by kernel_rfl
theorem tb_res_78 : Tryz.f78.results.toList = [.tmp 2] := by kernel_rfl
theorem tb_res_79 : Tryz.f79.results.toList = [.tmp 6] := by kernel_rfl
theorem tb_res_8 : Tryz.f8.results.toList = [.tmp 6] := by kernel_rfl
theorem tb_res_80 : Tryz.f80.results.toList = [.tmp 4] := by kernel_rfl
theorem tb_res_81 : Tryz.f81.results.toList = [.tmp 2] := by kernel_rfl
theorem tb_res_82 : Tryz.f82.results.toList = [.cell 4 89, .tmp 5] := by kernel_rfl
theorem tb_res_83 : Tryz.f83.results.toList = [.cell 4 89, .tmp 5] := by kernel_rfl
theorem tb_res_84 : Tryz.f84.results.toList = [.tmp 6, .tmp 7] := by kernel_rfl
theorem tb_res_85 : Tryz.f85.results.toList = [.tmp 4] := by kernel_rfl
theorem tb_res_86 : Tryz.f86.results.toList = [.tmp 4] := by kernel_rfl
theorem tb_res_88 : Tryz.f88.results.toList = [] := by kernel_rfl
theorem tb_res_89 : Tryz.f89.results.toList = [] := by kernel_rfl
theorem tb_res_9 : Tryz.f9.results.toList = [.tmp 6] := by kernel_rfl
theorem tb_res_90 : Tryz.f90.results.toList = [] := by kernel_rfl
theorem tb_res_91 : Tryz.f91.results.toList = [] := by kernel_rfl
theorem tb_res_92 : Tryz.f92.results.toList = [.tmp 6, .tmp 7] := by kernel_rfl
theorem tb_res_93 : Tryz.f93.results.toList = [] := by kernel_rfl
theorem tb_res_94 : Tryz.f94.results.toList = [.tmp 6] := by kernel_rfl
theorem tb_res_95 : Tryz.f95.results.toList = [.tmp 4] := by kernel_rfl
theorem tb_res_96 : Tryz.f96.results.toList = [.tmp 8] := by kernel_rfl
theorem tb_res_97 : Tryz.f97.results.toList = [.tmp 8, .tmp 9] := by kernel_rfl
theorem tb_res_98 : Tryz.f98.results.toList = [.tmp 2] := by kernel_rfl
theorem tb_res_99 : Tryz.f99.results.toList = [.tmp 2] := by kernel_rfl
theorem tb_zeroT_119 : zeroT Tryz.prog 119 = some (.agg #[.string ByteArray.empty, .string ByteArray.empty]) := by kernel_rfl
theorem tb_zeroT_122 : zeroT Tryz.prog 122 = some (.agg #[.string ByteArray.empty, .int .i64 0]) := by kernel_rfl
theorem tb_zeroT_127 : zeroT Tryz.prog 127 = some (.agg #[.int .u8 0, .int .u8 0, .string ByteArray.empty, .int .i64 0, .int .i64 0, .int .i64 0]) := by kernel_rfl
theorem tb_zeroT_130 : zeroT Tryz.prog 130 = some (.agg #[.string ByteArray.empty, .int .i64 0]) := by kernel_rfl
theorem tb_zeroT_133 : zeroT Tryz.prog 133 = some (.agg #[.int .u8 0, .string ByteArray.empty]) := by kernel_rfl
theorem tb_zeroT_137 : zeroT Tryz.prog 137 = some (.agg #[.int .u8 0, .int .i64 0, .int .i64 0]) := by kernel_rfl
theorem tb_zeroT_140 : zeroT Tryz.prog 140 = some (.agg #[.int .i64 0, .string ByteArray.empty]) := by kernel_rfl
theorem tb_zeroT_143 : zeroT Tryz.prog 143 = some (.agg #[.bool false, .int .u8 0, .int .i64 0]) := by kernel_rfl
theorem tb_zeroT_147 : zeroT Tryz.prog 147 = some (.agg #[.int .u8 0, .string ByteArray.empty, .int .i64 0, .int .i64 0]) := by kernel_rfl
theorem tb_zeroT_152 : zeroT Tryz.prog 152 = some (.agg #[.bool false, .int .i64 0, .int .i64 0, .int .u64 0]) := by kernel_rfl
theorem tb_zeroT_155 : zeroT Tryz.prog 155 = some (.agg #[.string ByteArray.empty, .int .i64 0]) := by kernel_rfl
theorem tb_zeroT_158 : zeroT Tryz.prog 158 = some (.agg #[.string ByteArray.empty, .slice none 0 0, .slice none 0 0, .int .i64 0]) := by kernel_rfl
theorem tb_zeroT_161 : zeroT Tryz.prog 161 = some (.agg #[.string ByteArray.empty, .slice none 0 0, .string ByteArray.empty, .int .i64 0, .int .u8 0, .int .i64 0]) := by kernel_rfl
theorem tb_zeroT_165 : zeroT Tryz.prog 165 = some (.agg #[.slice none 0 0, .string ByteArray.empty, .int .i64 0, .int .i64 0]) := by kernel_rfl
theorem tb_zeroT_168 : zeroT Tryz.prog 168 = some (.agg #[.string ByteArray.empty, .slice none 0 0, .slice none 0 0]) := by kernel_rfl
theorem tb_zeroT_171 : zeroT Tryz.prog 171 = some (.agg #[.string ByteArray.empty, .slice none 0 0]) := by kernel_rfl
theorem tb_zeroT_174 : zeroT Tryz.prog 174 = some (.agg #[.int .i64 0, .slice none 0 0]) := by kernel_rfl
theorem tb_zeroT_177 : zeroT Tryz.prog 177 = some (.agg #[.int .i64 0, .slice none 0 0, .slice none 0 0]) := by kernel_rfl
theorem tb_zeroT_180 : zeroT Tryz.prog 180 = some (.agg #[.string ByteArray.empty, .slice none 0 0, .slice none 0 0]) := by kernel_rfl
theorem tb_zeroT_200 : zeroT Tryz.prog 200 = some (.int .u64 0) := by kernel_rfl
theorem tb_zeroT_3 : zeroT Tryz.prog 3 = some (.int .i64 0) := by kernel_rfl
theorem tb_zeroT_58 : zeroT Tryz.prog 58 = some (.agg #[.slice none 0 0, .slice none 0 0, .slice none 0 0, .slice none 0 0, .slice none 0 0, .slice none 0 0, .slice none 0 0, .slice none 0 0, .slice none 0 0, .slice none 0 0, .slice none 0 0, .slice none 0 0, .slice none 0 0, .slice none 0 0, .slice none 0 0, .slice none 0 0, .slice none 0 0, .slice none 0 0, .slice none 0 0, .slice none 0 0, .slice none 0 0, .slice none 0 0, .slice none 0 0, .slice none 0 0, .slice none 0 0, .slice none 0 0, .slice none 0 0, .slice none 0 0]) := by kernel_rfl
theorem tb_zeroT_61 : zeroT Tryz.prog 61 = some (.agg #[.int .u8 0, .int .i64 0]) := by kernel_rfl
theorem tb_zeroT_64 : zeroT Tryz.prog 64 = some (.agg #[.int .i64 0, .int .i64 0, .int .i64 0, .int .u8 0, .int .i64 0, .slice none 0 0]) := by kernel_rfl
theorem tb_zeroT_82 : zeroT Tryz.prog 82 = some (.agg #[.slice none 0 0]) := by kernel_rfl
theorem tb_zeroT_84 : zeroT Tryz.prog 84 = some (.agg #[.slice none 0 0]) := by kernel_rfl
theorem tb_zeroT_89 : zeroT Tryz.prog 89 = some (.agg #[.int .i64 0, .int .u8 0, .int .i64 0]) := by kernel_rfl
theorem tb_zeroT_93 : zeroT Tryz.prog 93 = some (.agg #[.string ByteArray.empty, .slice none 0 0, .string ByteArray.empty]) := by kernel_rfl
theorem tb_zeroT_95 : zeroT Tryz.prog 95 = some (.agg #[.string ByteArray.empty, .slice none 0 0, .string ByteArray.empty, .int .i64 0, .bool false, .bool false, .int .u8 0, .int .i64 0, .int .u8 0, .int .i64 0]) := by kernel_rfl
theorem eqAgg_of {P : Program} {t : TypeId} {x y : Value} {r : Option Bool} (h : P.eqGuardType P.depth t = false) (hd : eqDeep P 8 t x y = r) : eqAgg P t x y = r := by unfold eqAgg; rw [h]; exact hd
theorem eqDeep_struct {P : Program} {n : Nat} {t : TypeId} {fs : Array Field} {xs ys : Array Value} {r : Option Bool} (hu : P.underlying t = some (.struct fs)) (hh : P.stoodInHeld t = false) (hf : eqFs P (eqDeep P n) xs ys fs.toList = r) : eqDeep P (n + 1) t (.agg xs) (.agg ys) = r := by unfold eqDeep; rw [hu]; show (if P.stoodInHeld t = true then _ else _) = _; rw [if_neg (by rw [hh]; decide)]; exact hf
theorem eqDeep_int {P : Program} {n : Nat} {t : TypeId} {k k' : IntKind} {a b : Int} (hu : P.underlying t = some (.int k')) : eqDeep P (n + 1) t (.int k a) (.int k b) = some (decide (a = b)) := by unfold eqDeep; rw [hu]; exact if_pos rfl
theorem eqDeep_string {P : Program} {n : Nat} {t : TypeId} {a b : ByteArray} (hu : P.underlying t = some .string) : eqDeep P (n + 1) t (.string a) (.string b) = some (decide (a.toList = b.toList)) := by unfold eqDeep; rw [hu]; show some (a.toList == b.toList) = _; by_cases h : a.toList = b.toList <;> simp [h]
theorem eqFs_nil {P : Program} {r : TypeId → Value → Value → Option Bool} {xs ys : Array Value} : eqFs P r xs ys [] = some (decide True) := rfl
theorem eqFs_cons {P : Program} {r : TypeId → Value → Value → Option Bool} {xs ys : Array Value} {f : Field} {fs : List Field} {a b : Value} {c d : Prop} [Decidable c] [Decidable d] (hn : f.name ≠ "_") (ha : partP P f.type xs f.offset = some a) (hb : partP P f.type ys f.offset = some b)
    (hr : r f.type a b = some (decide c)) (ht : eqFs P r xs ys fs = some (decide d)) : eqFs P r xs ys (f :: fs) = some (decide (c ∧ d)) := by
  unfold eqFs
  rw [if_neg hn, ha, hb]
  show (match r f.type a b with | some true => _ | some false => _ | none => _) = _
  rw [hr]
  by_cases h : c
  · rw [decide_eq_true h, ht]; simp [h]
  · rw [decide_eq_false h]; simp [h]
theorem eqPart_leaf {P : Program} {t : TypeId} {cs : Array Value} {o n : Nat} {v : Value} (h : isAggT P t = some false) (hc : cellsT P t = some n) (hv : cs[o]? = some v) : partP P t cs o = some v := by unfold partP; rw [h, hc]; exact hv
theorem eqPart_agg {P : Program} {t : TypeId} {cs : Array Value} {o n : Nat} {x : Array Value} (h : isAggT P t = some true) (hc : cellsT P t = some n) (hv : cs.extract o (o + n) = x) : partP P t cs o = some (.agg x) := by unfold partP; rw [h, hc, ← hv]
theorem tb_eqU_61 : Tryz.prog.underlying 61 = some (.struct #[⟨"Kind", 59, 0, false, "", "", 0⟩, ⟨"N", 2, 1, false, "", "", 8⟩]) := by kernel_rfl
theorem tb_eqH_61 : Tryz.prog.stoodInHeld 61 = false := by kernel_rfl
theorem tb_eqA_59 : isAggT Tryz.prog 59 = some false := by kernel_rfl
theorem tb_eqC_59 : cellsT Tryz.prog 59 = some 1 := by kernel_rfl
theorem tb_eqU_59 : Tryz.prog.underlying 59 = some (.int .u8) := by kernel_rfl
theorem tb_eqA_2 : isAggT Tryz.prog 2 = some false := by kernel_rfl
theorem tb_eqC_2 : cellsT Tryz.prog 2 = some 1 := by kernel_rfl
theorem tb_eqU_2 : Tryz.prog.underlying 2 = some (.int .i64) := by kernel_rfl
theorem tb_eqG_61 : Tryz.prog.eqGuardType Tryz.prog.depth 61 = false := by kernel_rfl
theorem tb_eqU_89 : Tryz.prog.underlying 89 = some (.struct #[⟨"Time", 2, 0, false, "", "", 0⟩, ⟨"Value", 61, 1, false, "", "", 8⟩]) := by kernel_rfl
theorem tb_eqH_89 : Tryz.prog.stoodInHeld 89 = false := by kernel_rfl
theorem tb_eqA_61 : isAggT Tryz.prog 61 = some true := by kernel_rfl
theorem tb_eqC_61 : cellsT Tryz.prog 61 = some 2 := by kernel_rfl
theorem tb_eqG_89 : Tryz.prog.eqGuardType Tryz.prog.depth 89 = false := by kernel_rfl
theorem tb_eqU_119 : Tryz.prog.underlying 119 = some (.struct #[⟨"Key", 9, 0, false, "", "", 0⟩, ⟨"Value", 9, 1, false, "", "", 16⟩]) := by kernel_rfl
theorem tb_eqH_119 : Tryz.prog.stoodInHeld 119 = false := by kernel_rfl
theorem tb_eqA_9 : isAggT Tryz.prog 9 = some false := by kernel_rfl
theorem tb_eqC_9 : cellsT Tryz.prog 9 = some 1 := by kernel_rfl
theorem tb_eqU_9 : Tryz.prog.underlying 9 = some .string := by kernel_rfl
theorem tb_eqG_119 : Tryz.prog.eqGuardType Tryz.prog.depth 119 = false := by kernel_rfl
theorem tb_eqU_122 : Tryz.prog.underlying 122 = some (.struct #[⟨"Key", 9, 0, false, "", "", 0⟩, ⟨"N", 2, 1, false, "", "", 16⟩]) := by kernel_rfl
theorem tb_eqH_122 : Tryz.prog.stoodInHeld 122 = false := by kernel_rfl
theorem tb_eqG_122 : Tryz.prog.eqGuardType Tryz.prog.depth 122 = false := by kernel_rfl
theorem tb_eqU_127 : Tryz.prog.underlying 127 = some (.struct #[⟨"Op", 124, 0, false, "", "", 0⟩, ⟨"Func", 125, 1, false, "", "", 1⟩, ⟨"S", 9, 2, false, "", "", 8⟩, ⟨"N", 2, 3, false, "", "", 24⟩, ⟨"Kids", 3, 4, false, "", "", 32⟩, ⟨"Pos", 3, 5, false, "", "", 40⟩]) := by kernel_rfl
theorem tb_eqH_127 : Tryz.prog.stoodInHeld 127 = false := by kernel_rfl
theorem tb_eqA_124 : isAggT Tryz.prog 124 = some false := by kernel_rfl
theorem tb_eqC_124 : cellsT Tryz.prog 124 = some 1 := by kernel_rfl
theorem tb_eqU_124 : Tryz.prog.underlying 124 = some (.int .u8) := by kernel_rfl
theorem tb_eqA_125 : isAggT Tryz.prog 125 = some false := by kernel_rfl
theorem tb_eqC_125 : cellsT Tryz.prog 125 = some 1 := by kernel_rfl
theorem tb_eqU_125 : Tryz.prog.underlying 125 = some (.int .u8) := by kernel_rfl
theorem tb_eqA_3 : isAggT Tryz.prog 3 = some false := by kernel_rfl
theorem tb_eqC_3 : cellsT Tryz.prog 3 = some 1 := by kernel_rfl
theorem tb_eqU_3 : Tryz.prog.underlying 3 = some (.int .i64) := by kernel_rfl
theorem tb_eqG_127 : Tryz.prog.eqGuardType Tryz.prog.depth 127 = false := by kernel_rfl
theorem tb_eqU_130 : Tryz.prog.underlying 130 = some (.struct #[⟨"Text", 9, 0, false, "", "", 0⟩, ⟨"Pos", 3, 1, false, "", "", 16⟩]) := by kernel_rfl
theorem tb_eqH_130 : Tryz.prog.stoodInHeld 130 = false := by kernel_rfl
theorem tb_eqG_130 : Tryz.prog.eqGuardType Tryz.prog.depth 130 = false := by kernel_rfl
theorem tb_eqU_133 : Tryz.prog.underlying 133 = some (.struct #[⟨"Func", 125, 0, false, "", "", 0⟩, ⟨"Field", 9, 1, false, "", "", 8⟩]) := by kernel_rfl
theorem tb_eqH_133 : Tryz.prog.stoodInHeld 133 = false := by kernel_rfl
theorem tb_eqG_133 : Tryz.prog.eqGuardType Tryz.prog.depth 133 = false := by kernel_rfl
theorem tb_eqU_137 : Tryz.prog.underlying 137 = some (.struct #[⟨"Code", 135, 0, false, "", "", 0⟩, ⟨"A", 3, 1, false, "", "", 8⟩, ⟨"B", 3, 2, false, "", "", 16⟩]) := by kernel_rfl
theorem tb_eqH_137 : Tryz.prog.stoodInHeld 137 = false := by kernel_rfl
theorem tb_eqA_135 : isAggT Tryz.prog 135 = some false := by kernel_rfl
theorem tb_eqC_135 : cellsT Tryz.prog 135 = some 1 := by kernel_rfl
theorem tb_eqU_135 : Tryz.prog.underlying 135 = some (.int .u8) := by kernel_rfl
theorem tb_eqG_137 : Tryz.prog.eqGuardType Tryz.prog.depth 137 = false := by kernel_rfl
theorem tb_eqU_140 : Tryz.prog.underlying 140 = some (.struct #[⟨"Rank", 2, 0, false, "", "", 0⟩, ⟨"Name", 9, 1, false, "", "", 8⟩]) := by kernel_rfl
theorem tb_eqH_140 : Tryz.prog.stoodInHeld 140 = false := by kernel_rfl
theorem tb_eqG_140 : Tryz.prog.eqGuardType Tryz.prog.depth 140 = false := by kernel_rfl
theorem tb_eqU_147 : Tryz.prog.underlying 147 = some (.struct #[⟨"Kind", 145, 0, false, "", "", 0⟩, ⟨"Text", 9, 1, false, "", "", 8⟩, ⟨"N", 2, 2, false, "", "", 24⟩, ⟨"Pos", 3, 3, false, "", "", 32⟩]) := by kernel_rfl
theorem tb_eqH_147 : Tryz.prog.stoodInHeld 147 = false := by kernel_rfl
theorem tb_eqA_145 : isAggT Tryz.prog 145 = some false := by kernel_rfl
theorem tb_eqC_145 : cellsT Tryz.prog 145 = some 1 := by kernel_rfl
theorem tb_eqU_145 : Tryz.prog.underlying 145 = some (.int .u8) := by kernel_rfl
theorem tb_eqG_147 : Tryz.prog.eqGuardType Tryz.prog.depth 147 = false := by kernel_rfl
theorem tb_eqU_155 : Tryz.prog.underlying 155 = some (.struct #[⟨"Name", 9, 0, false, "", "", 0⟩, ⟨"Keep", 3, 1, false, "", "", 16⟩]) := by kernel_rfl
theorem tb_eqH_155 : Tryz.prog.stoodInHeld 155 = false := by kernel_rfl
theorem tb_eqG_155 : Tryz.prog.eqGuardType Tryz.prog.depth 155 = false := by kernel_rfl
theorem tb_eqS_61 (a0 b0 : Int) (a1 b1 : Int) : (eqAgg Tryz.prog 61 (.agg #[.int .u8 a0, .int .i64 a1]) (.agg #[.int .u8 b0, .int .i64 b1])) = some (decide (a0 = b0 ∧ a1 = b1)) := (eqAgg_of tb_eqG_61 (eqDeep_struct tb_eqU_61 tb_eqH_61 (eqFs_cons (by decide) (eqPart_leaf tb_eqA_59 tb_eqC_59 rfl) (eqPart_leaf tb_eqA_59 tb_eqC_59 rfl) (eqDeep_int tb_eqU_59) (eqFs_cons (by decide) (eqPart_leaf tb_eqA_2 tb_eqC_2 rfl) (eqPart_leaf tb_eqA_2 tb_eqC_2 rfl) (eqDeep_int tb_eqU_2) eqFs_nil)))).trans (by simp)
theorem tb_eqS_89 (a0 b0 : Int) (a1 b1 : Int) (a2 b2 : Int) : (eqAgg Tryz.prog 89 (.agg #[.int .i64 a0, .int .u8 a1, .int .i64 a2]) (.agg #[.int .i64 b0, .int .u8 b1, .int .i64 b2])) = some (decide (a0 = b0 ∧ a1 = b1 ∧ a2 = b2)) := (eqAgg_of tb_eqG_89 (eqDeep_struct tb_eqU_89 tb_eqH_89 (eqFs_cons (by decide) (eqPart_leaf tb_eqA_2 tb_eqC_2 rfl) (eqPart_leaf tb_eqA_2 tb_eqC_2 rfl) (eqDeep_int tb_eqU_2) (eqFs_cons (by decide) (eqPart_agg tb_eqA_61 tb_eqC_61 rfl) (eqPart_agg tb_eqA_61 tb_eqC_61 rfl) (eqDeep_struct tb_eqU_61 tb_eqH_61 (eqFs_cons (by decide) (eqPart_leaf tb_eqA_59 tb_eqC_59 rfl) (eqPart_leaf tb_eqA_59 tb_eqC_59 rfl) (eqDeep_int tb_eqU_59) (eqFs_cons (by decide) (eqPart_leaf tb_eqA_2 tb_eqC_2 rfl) (eqPart_leaf tb_eqA_2 tb_eqC_2 rfl) (eqDeep_int tb_eqU_2) eqFs_nil))) eqFs_nil)))).trans (by simp)
theorem tb_eqS_119 (a0 b0 : ByteArray) (a1 b1 : ByteArray) : (eqAgg Tryz.prog 119 (.agg #[.string a0, .string a1]) (.agg #[.string b0, .string b1])) = some (decide (a0.toList = b0.toList ∧ a1.toList = b1.toList)) := (eqAgg_of tb_eqG_119 (eqDeep_struct tb_eqU_119 tb_eqH_119 (eqFs_cons (by decide) (eqPart_leaf tb_eqA_9 tb_eqC_9 rfl) (eqPart_leaf tb_eqA_9 tb_eqC_9 rfl) (eqDeep_string tb_eqU_9) (eqFs_cons (by decide) (eqPart_leaf tb_eqA_9 tb_eqC_9 rfl) (eqPart_leaf tb_eqA_9 tb_eqC_9 rfl) (eqDeep_string tb_eqU_9) eqFs_nil)))).trans (by simp)
theorem tb_eqS_122 (a0 b0 : ByteArray) (a1 b1 : Int) : (eqAgg Tryz.prog 122 (.agg #[.string a0, .int .i64 a1]) (.agg #[.string b0, .int .i64 b1])) = some (decide (a0.toList = b0.toList ∧ a1 = b1)) := (eqAgg_of tb_eqG_122 (eqDeep_struct tb_eqU_122 tb_eqH_122 (eqFs_cons (by decide) (eqPart_leaf tb_eqA_9 tb_eqC_9 rfl) (eqPart_leaf tb_eqA_9 tb_eqC_9 rfl) (eqDeep_string tb_eqU_9) (eqFs_cons (by decide) (eqPart_leaf tb_eqA_2 tb_eqC_2 rfl) (eqPart_leaf tb_eqA_2 tb_eqC_2 rfl) (eqDeep_int tb_eqU_2) eqFs_nil)))).trans (by simp)
theorem tb_eqS_127 (a0 b0 : Int) (a1 b1 : Int) (a2 b2 : ByteArray) (a3 b3 : Int) (a4 b4 : Int) (a5 b5 : Int) : (eqAgg Tryz.prog 127 (.agg #[.int .u8 a0, .int .u8 a1, .string a2, .int .i64 a3, .int .i64 a4, .int .i64 a5]) (.agg #[.int .u8 b0, .int .u8 b1, .string b2, .int .i64 b3, .int .i64 b4, .int .i64 b5])) = some (decide (a0 = b0 ∧ a1 = b1 ∧ a2.toList = b2.toList ∧ a3 = b3 ∧ a4 = b4 ∧ a5 = b5)) := (eqAgg_of tb_eqG_127 (eqDeep_struct tb_eqU_127 tb_eqH_127 (eqFs_cons (by decide) (eqPart_leaf tb_eqA_124 tb_eqC_124 rfl) (eqPart_leaf tb_eqA_124 tb_eqC_124 rfl) (eqDeep_int tb_eqU_124) (eqFs_cons (by decide) (eqPart_leaf tb_eqA_125 tb_eqC_125 rfl) (eqPart_leaf tb_eqA_125 tb_eqC_125 rfl) (eqDeep_int tb_eqU_125) (eqFs_cons (by decide) (eqPart_leaf tb_eqA_9 tb_eqC_9 rfl) (eqPart_leaf tb_eqA_9 tb_eqC_9 rfl) (eqDeep_string tb_eqU_9) (eqFs_cons (by decide) (eqPart_leaf tb_eqA_2 tb_eqC_2 rfl) (eqPart_leaf tb_eqA_2 tb_eqC_2 rfl) (eqDeep_int tb_eqU_2) (eqFs_cons (by decide) (eqPart_leaf tb_eqA_3 tb_eqC_3 rfl) (eqPart_leaf tb_eqA_3 tb_eqC_3 rfl) (eqDeep_int tb_eqU_3) (eqFs_cons (by decide) (eqPart_leaf tb_eqA_3 tb_eqC_3 rfl) (eqPart_leaf tb_eqA_3 tb_eqC_3 rfl) (eqDeep_int tb_eqU_3) eqFs_nil)))))))).trans (by simp)
theorem tb_eqS_130 (a0 b0 : ByteArray) (a1 b1 : Int) : (eqAgg Tryz.prog 130 (.agg #[.string a0, .int .i64 a1]) (.agg #[.string b0, .int .i64 b1])) = some (decide (a0.toList = b0.toList ∧ a1 = b1)) := (eqAgg_of tb_eqG_130 (eqDeep_struct tb_eqU_130 tb_eqH_130 (eqFs_cons (by decide) (eqPart_leaf tb_eqA_9 tb_eqC_9 rfl) (eqPart_leaf tb_eqA_9 tb_eqC_9 rfl) (eqDeep_string tb_eqU_9) (eqFs_cons (by decide) (eqPart_leaf tb_eqA_3 tb_eqC_3 rfl) (eqPart_leaf tb_eqA_3 tb_eqC_3 rfl) (eqDeep_int tb_eqU_3) eqFs_nil)))).trans (by simp)
theorem tb_eqS_133 (a0 b0 : Int) (a1 b1 : ByteArray) : (eqAgg Tryz.prog 133 (.agg #[.int .u8 a0, .string a1]) (.agg #[.int .u8 b0, .string b1])) = some (decide (a0 = b0 ∧ a1.toList = b1.toList)) := (eqAgg_of tb_eqG_133 (eqDeep_struct tb_eqU_133 tb_eqH_133 (eqFs_cons (by decide) (eqPart_leaf tb_eqA_125 tb_eqC_125 rfl) (eqPart_leaf tb_eqA_125 tb_eqC_125 rfl) (eqDeep_int tb_eqU_125) (eqFs_cons (by decide) (eqPart_leaf tb_eqA_9 tb_eqC_9 rfl) (eqPart_leaf tb_eqA_9 tb_eqC_9 rfl) (eqDeep_string tb_eqU_9) eqFs_nil)))).trans (by simp)
theorem tb_eqS_137 (a0 b0 : Int) (a1 b1 : Int) (a2 b2 : Int) : (eqAgg Tryz.prog 137 (.agg #[.int .u8 a0, .int .i64 a1, .int .i64 a2]) (.agg #[.int .u8 b0, .int .i64 b1, .int .i64 b2])) = some (decide (a0 = b0 ∧ a1 = b1 ∧ a2 = b2)) := (eqAgg_of tb_eqG_137 (eqDeep_struct tb_eqU_137 tb_eqH_137 (eqFs_cons (by decide) (eqPart_leaf tb_eqA_135 tb_eqC_135 rfl) (eqPart_leaf tb_eqA_135 tb_eqC_135 rfl) (eqDeep_int tb_eqU_135) (eqFs_cons (by decide) (eqPart_leaf tb_eqA_3 tb_eqC_3 rfl) (eqPart_leaf tb_eqA_3 tb_eqC_3 rfl) (eqDeep_int tb_eqU_3) (eqFs_cons (by decide) (eqPart_leaf tb_eqA_3 tb_eqC_3 rfl) (eqPart_leaf tb_eqA_3 tb_eqC_3 rfl) (eqDeep_int tb_eqU_3) eqFs_nil))))).trans (by simp)
theorem tb_eqS_140 (a0 b0 : Int) (a1 b1 : ByteArray) : (eqAgg Tryz.prog 140 (.agg #[.int .i64 a0, .string a1]) (.agg #[.int .i64 b0, .string b1])) = some (decide (a0 = b0 ∧ a1.toList = b1.toList)) := (eqAgg_of tb_eqG_140 (eqDeep_struct tb_eqU_140 tb_eqH_140 (eqFs_cons (by decide) (eqPart_leaf tb_eqA_2 tb_eqC_2 rfl) (eqPart_leaf tb_eqA_2 tb_eqC_2 rfl) (eqDeep_int tb_eqU_2) (eqFs_cons (by decide) (eqPart_leaf tb_eqA_9 tb_eqC_9 rfl) (eqPart_leaf tb_eqA_9 tb_eqC_9 rfl) (eqDeep_string tb_eqU_9) eqFs_nil)))).trans (by simp)
theorem tb_eqS_147 (a0 b0 : Int) (a1 b1 : ByteArray) (a2 b2 : Int) (a3 b3 : Int) : (eqAgg Tryz.prog 147 (.agg #[.int .u8 a0, .string a1, .int .i64 a2, .int .i64 a3]) (.agg #[.int .u8 b0, .string b1, .int .i64 b2, .int .i64 b3])) = some (decide (a0 = b0 ∧ a1.toList = b1.toList ∧ a2 = b2 ∧ a3 = b3)) := (eqAgg_of tb_eqG_147 (eqDeep_struct tb_eqU_147 tb_eqH_147 (eqFs_cons (by decide) (eqPart_leaf tb_eqA_145 tb_eqC_145 rfl) (eqPart_leaf tb_eqA_145 tb_eqC_145 rfl) (eqDeep_int tb_eqU_145) (eqFs_cons (by decide) (eqPart_leaf tb_eqA_9 tb_eqC_9 rfl) (eqPart_leaf tb_eqA_9 tb_eqC_9 rfl) (eqDeep_string tb_eqU_9) (eqFs_cons (by decide) (eqPart_leaf tb_eqA_2 tb_eqC_2 rfl) (eqPart_leaf tb_eqA_2 tb_eqC_2 rfl) (eqDeep_int tb_eqU_2) (eqFs_cons (by decide) (eqPart_leaf tb_eqA_3 tb_eqC_3 rfl) (eqPart_leaf tb_eqA_3 tb_eqC_3 rfl) (eqDeep_int tb_eqU_3) eqFs_nil)))))).trans (by simp)
theorem tb_eqS_155 (a0 b0 : ByteArray) (a1 b1 : Int) : (eqAgg Tryz.prog 155 (.agg #[.string a0, .int .i64 a1]) (.agg #[.string b0, .int .i64 b1])) = some (decide (a0.toList = b0.toList ∧ a1 = b1)) := (eqAgg_of tb_eqG_155 (eqDeep_struct tb_eqU_155 tb_eqH_155 (eqFs_cons (by decide) (eqPart_leaf tb_eqA_9 tb_eqC_9 rfl) (eqPart_leaf tb_eqA_9 tb_eqC_9 rfl) (eqDeep_string tb_eqU_9) (eqFs_cons (by decide) (eqPart_leaf tb_eqA_3 tb_eqC_3 rfl) (eqPart_leaf tb_eqA_3 tb_eqC_3 rfl) (eqDeep_int tb_eqU_3) eqFs_nil)))).trans (by simp)
/- all facts that one function's walk wants. -/
abbrev tf2 := (And.intro @tb_res_2 @tb_callable_1)
abbrev tf3 := (And.intro (And.intro (And.intro (And.intro (And.intro @tb_res_3 @tb_callable_4) (And.intro @tb_callable_5 @tb_callable_6)) (And.intro (And.intro @tb_buildT_58 @tb_zeroT_58) (And.intro @tb_lenT_22 @tb_indexT_22))) (And.intro (And.intro (And.intro @tb_fieldOff_64_0 @tb_isAggT_3) (And.intro @tb_cellsT_3 @tb_fieldOff_64_1)) (And.intro (And.intro @tb_isAggT_2 @tb_cellsT_2) (And.intro @tb_fieldOff_64_2 @tb_callable_8)))) (And.intro (And.intro (And.intro (And.intro @tb_callable_7 @tb_callable_9) (And.intro @tb_bsT_62_0 @tb_fieldOff_64_4)) (And.intro (And.intro @tb_isAggT_62 @tb_cellsT_62) (And.intro @tb_callable_11 @tb_callable_10))) (And.intro (And.intro (And.intro @tb_callable_12 @tb_isAggT_64) (And.intro @tb_cellsT_64 @tb_callable_13)) (And.intro (And.intro @tb_callable_14 @tb_callable_15) (And.intro @tb_callable_17 @tb_callable_16)))))
abbrev tf4 := (And.intro (And.intro (And.intro @tb_res_4 (And.intro @tb_callable_5 @tb_buildT_61)) (And.intro @tb_callable_18 (And.intro @tb_zeroT_61 @tb_isAggT_61))) (And.intro (And.intro @tb_cellsT_61 (And.intro @tb_callable_19 @tb_fieldOff_61_1)) (And.intro @tb_isAggT_2 (And.intro @tb_cellsT_2 @tb_callable_20))))
abbrev tf5 := (And.intro @tb_res_5 (And.intro @tb_buildT_82 @tb_zeroT_82))
abbrev tf6 := (And.intro @tb_res_6 (And.intro @tb_buildT_84 @tb_zeroT_84))
abbrev tf7 := (And.intro (And.intro @tb_res_7 @tb_fieldOff_58_7) (And.intro @tb_isAggT_36 (And.intro @tb_cellsT_36 @tb_bsT_36_1)))
abbrev tf8 := (And.intro (And.intro (And.intro @tb_res_8 @tb_callable_21) (And.intro @tb_fieldOff_82_0 @tb_fieldOff_80_0)) (And.intro (And.intro @tb_isAggT_62 @tb_cellsT_62) (And.intro @tb_indexT_62 @tb_callable_22)))
abbrev tf9 := (And.intro (And.intro (And.intro @tb_res_9 @tb_callable_23) (And.intro @tb_lenT_62 @tb_indexT_62)) (And.intro (And.intro @tb_fieldOff_89_0 @tb_isAggT_2) (And.intro @tb_cellsT_2 @tb_callable_24)))
abbrev tf10 := (And.intro (And.intro (And.intro @tb_res_10 (And.intro @tb_fieldOff_58_19 @tb_isAggT_48)) (And.intro @tb_cellsT_48 (And.intro @tb_bsT_48_1 @tb_lenT_68))) (And.intro (And.intro @tb_indexT_68 (And.intro @tb_fieldOff_95_0 @tb_fieldOff_93_1)) (And.intro @tb_isAggT_91 (And.intro @tb_cellsT_91 @tb_callable_25))))
abbrev tf11 := (And.intro (And.intro (And.intro (And.intro @tb_res_11 (And.intro @tb_eqT_24 @tb_callable_26)) (And.intro @tb_lenT_62 (And.intro @tb_indexT_62 @tb_isAggT_89))) (And.intro (And.intro @tb_cellsT_89 (And.intro @tb_zeroT_89 @tb_fieldOff_89_0)) (And.intro (And.intro @tb_isAggT_2 @tb_cellsT_2) (And.intro @tb_fieldOff_89_1 @tb_isAggT_61)))) (And.intro (And.intro (And.intro @tb_cellsT_61 (And.intro @tb_callable_18 @tb_bsT_72_1)) (And.intro @tb_callable_27 (And.intro @tb_callable_28 @tb_lenT_72))) (And.intro (And.intro @tb_indexT_72 (And.intro @tb_callable_19 @tb_zeroT_61)) (And.intro (And.intro @tb_eqT_61 @tb_eqS_61) (And.intro @tb_buildT_95 @tb_bsT_68_1)))))
abbrev tf12 := (And.intro (And.intro (And.intro (And.intro @tb_res_12 @tb_eqT_26) (And.intro @tb_callable_29 (And.intro @tb_lenT_62 @tb_indexT_62))) (And.intro (And.intro @tb_fieldOff_89_0 @tb_isAggT_2) (And.intro @tb_cellsT_2 (And.intro @tb_fieldOff_89_1 @tb_isAggT_61)))) (And.intro (And.intro (And.intro @tb_cellsT_61 @tb_callable_30) (And.intro @tb_fieldOff_84_0 (And.intro @tb_isAggT_62 @tb_cellsT_62))) (And.intro (And.intro @tb_callable_31 (And.intro @tb_zeroT_61 @tb_eqT_61)) (And.intro @tb_eqS_61 (And.intro @tb_buildT_95 @tb_bsT_68_1)))))
abbrev tf13 := (And.intro (And.intro (And.intro (And.intro (And.intro @tb_res_13 @tb_zeroT_64) (And.intro @tb_fieldOff_64_0 @tb_isAggT_3)) (And.intro (And.intro @tb_cellsT_3 @tb_fieldOff_64_1) (And.intro @tb_isAggT_2 (And.intro @tb_cellsT_2 @tb_fieldOff_64_3)))) (And.intro (And.intro (And.intro @tb_isAggT_61 @tb_cellsT_61) (And.intro @tb_callable_18 @tb_zeroT_61)) (And.intro (And.intro @tb_callable_30 @tb_eqT_61) (And.intro @tb_eqS_61 (And.intro @tb_eqT_4 @tb_callable_32))))) (And.intro (And.intro (And.intro (And.intro @tb_callable_24 @tb_fieldOff_64_2) (And.intro @tb_callable_8 @tb_callable_9)) (And.intro (And.intro @tb_callable_33 @tb_fieldOff_64_4) (And.intro @tb_isAggT_62 (And.intro @tb_cellsT_62 @tb_callable_34)))) (And.intro (And.intro (And.intro @tb_callable_11 @tb_callable_12) (And.intro @tb_callable_35 @tb_callable_36)) (And.intro (And.intro @tb_lenT_62 @tb_buildT_89) (And.intro @tb_indexT_62 (And.intro @tb_isAggT_89 @tb_cellsT_89))))))
abbrev tf14 := (And.intro (And.intro (And.intro @tb_res_14 @tb_callable_21) (And.intro @tb_fieldOff_82_0 @tb_fieldOff_80_0)) (And.intro (And.intro @tb_isAggT_62 @tb_cellsT_62) (And.intro @tb_indexT_62 @tb_callable_22)))
abbrev tf15 := (And.intro (And.intro (And.intro (And.intro (And.intro @tb_res_15 @tb_callable_37) (And.intro @tb_callable_38 @tb_callable_39)) (And.intro (And.intro @tb_callable_40 @tb_callable_41) (And.intro @tb_callable_42 @tb_callable_43))) (And.intro (And.intro (And.intro @tb_callable_44 @tb_callable_45) (And.intro @tb_callable_46 @tb_callable_47)) (And.intro (And.intro @tb_callable_48 @tb_callable_49) (And.intro @tb_callable_50 @tb_callable_51)))) (And.intro (And.intro (And.intro (And.intro @tb_callable_52 @tb_callable_53) (And.intro @tb_callable_54 @tb_callable_55)) (And.intro (And.intro @tb_callable_56 @tb_callable_57) (And.intro @tb_callable_58 @tb_callable_59))) (And.intro (And.intro (And.intro @tb_callable_60 @tb_callable_61) (And.intro @tb_callable_62 @tb_callable_63)) (And.intro (And.intro @tb_callable_64 @tb_buildT_58) (And.intro @tb_isAggT_58 @tb_cellsT_58)))))
abbrev tf16 := (And.intro (And.intro (And.intro (And.intro @tb_res_16 (And.intro @tb_callable_65 @tb_zeroT_89)) (And.intro (And.intro @tb_isAggT_89 @tb_cellsT_89) (And.intro @tb_callable_66 @tb_callable_67))) (And.intro (And.intro (And.intro @tb_callable_68 @tb_callable_20) (And.intro @tb_callable_69 @tb_eqT_89)) (And.intro (And.intro @tb_eqS_89 @tb_eqT_4) (And.intro @tb_lenT_72 @tb_indexT_72)))) (And.intro (And.intro (And.intro (And.intro @tb_isAggT_2 @tb_cellsT_2) (And.intro @tb_callable_19 @tb_zeroT_61)) (And.intro (And.intro @tb_isAggT_61 @tb_cellsT_61) (And.intro @tb_callable_31 @tb_eqT_61))) (And.intro (And.intro (And.intro @tb_eqS_61 @tb_callable_70) (And.intro @tb_callable_71 @tb_callable_72)) (And.intro (And.intro @tb_callable_73 @tb_callable_14) (And.intro @tb_callable_23 @tb_callable_33)))))
abbrev tf17 := (And.intro (And.intro (And.intro (And.intro @tb_res_17 @tb_bsT_72_2) (And.intro @tb_lenT_22 @tb_indexT_22)) (And.intro (And.intro @tb_fieldOff_64_1 @tb_isAggT_2) (And.intro @tb_cellsT_2 (And.intro @tb_bsT_72_1 @tb_fieldOff_64_0)))) (And.intro (And.intro (And.intro @tb_isAggT_3 @tb_cellsT_3) (And.intro @tb_fieldOff_64_2 @tb_fieldOff_64_4)) (And.intro (And.intro @tb_isAggT_62 @tb_cellsT_62) (And.intro @tb_lenT_62 (And.intro @tb_indexT_62 @tb_fieldOff_89_0)))))
abbrev tf18 := (And.intro (And.intro (And.intro (And.intro @tb_res_18 @tb_isAggT_61) (And.intro @tb_cellsT_61 @tb_zeroT_61)) (And.intro (And.intro @tb_eqT_24 @tb_buildT_61) (And.intro @tb_fieldOff_82_0 @tb_callable_74))) (And.intro (And.intro (And.intro @tb_fieldOff_80_0 @tb_isAggT_62) (And.intro @tb_cellsT_62 @tb_indexT_62)) (And.intro (And.intro @tb_fieldOff_89_1 @tb_buildT_89) (And.intro @tb_bsT_62_1 @tb_callable_75))))
abbrev tf19 := (And.intro (And.intro (And.intro @tb_res_19 (And.intro @tb_isAggT_61 @tb_cellsT_61)) (And.intro @tb_zeroT_61 (And.intro @tb_eqT_24 @tb_buildT_61))) (And.intro (And.intro @tb_fieldOff_82_0 (And.intro @tb_callable_74 @tb_fieldOff_80_0)) (And.intro (And.intro @tb_isAggT_62 @tb_cellsT_62) (And.intro @tb_indexT_62 @tb_fieldOff_89_1))))
abbrev tf20 := (And.intro (And.intro @tb_res_20 (And.intro @tb_eqT_24 @tb_fieldOff_82_0)) (And.intro (And.intro @tb_fieldOff_80_0 @tb_isAggT_62) (And.intro @tb_cellsT_62 @tb_lenT_62)))
abbrev tf21 := (And.intro (And.intro @tb_res_21 @tb_eqT_24) (And.intro @tb_fieldOff_82_0 @tb_callable_74))
abbrev tf22 := (And.intro @tb_res_22 (And.intro @tb_eqT_62 @tb_bsT_62_0))
abbrev tf23 := (And.intro (And.intro (And.intro @tb_res_23 (And.intro @tb_eqT_26 @tb_fieldOff_84_0)) (And.intro @tb_isAggT_62 (And.intro @tb_cellsT_62 @tb_lenT_62))) (And.intro (And.intro @tb_indexT_62 (And.intro @tb_fieldOff_89_0 @tb_isAggT_2)) (And.intro (And.intro @tb_cellsT_2 @tb_isAggT_89) (And.intro @tb_cellsT_89 @tb_bsT_62_1))))
abbrev tf24 := (And.intro (And.intro (And.intro @tb_res_24 @tb_isAggT_61) (And.intro @tb_cellsT_61 (And.intro @tb_zeroT_61 @tb_callable_31))) (And.intro (And.intro @tb_callable_76 @tb_fieldOff_84_0) (And.intro @tb_isAggT_62 (And.intro @tb_cellsT_62 @tb_indexT_62))))
abbrev tf25 := (And.intro (And.intro @tb_res_25 @tb_fieldOff_58_5) (And.intro @tb_isAggT_34 (And.intro @tb_cellsT_34 @tb_bsT_34_1)))
abbrev tf26 := (And.intro (And.intro (And.intro @tb_res_26 @tb_eqT_24) (And.intro @tb_fieldOff_82_0 (And.intro @tb_fieldOff_80_0 @tb_isAggT_62))) (And.intro (And.intro @tb_cellsT_62 @tb_callable_22) (And.intro @tb_buildT_80 (And.intro @tb_buildT_82 @tb_zeroT_82))))
abbrev tf27 := (And.intro (And.intro @tb_res_27 @tb_lenT_72) (And.intro @tb_convT_3_109 (And.intro @tb_callable_78 @tb_callable_77)))
abbrev tf28 := (And.intro (And.intro @tb_res_28 @tb_lenT_72) (And.intro @tb_indexT_72 (And.intro @tb_isAggT_2 @tb_cellsT_2)))
abbrev tf29 := (And.intro (And.intro (And.intro @tb_res_29 @tb_eqT_26) (And.intro @tb_bsT_62_0 @tb_fieldOff_84_0)) (And.intro (And.intro @tb_isAggT_62 @tb_cellsT_62) (And.intro @tb_buildT_84 @tb_zeroT_84)))
abbrev tf30 := (And.intro (And.intro (And.intro @tb_res_30 (And.intro @tb_isAggT_61 @tb_cellsT_61)) (And.intro (And.intro @tb_zeroT_61 @tb_eqT_26) (And.intro @tb_buildT_61 @tb_callable_31))) (And.intro (And.intro @tb_callable_76 (And.intro @tb_fieldOff_84_0 @tb_isAggT_62)) (And.intro (And.intro @tb_cellsT_62 @tb_indexT_62) (And.intro @tb_buildT_89 @tb_bsT_62_1))))
abbrev tf31 := (And.intro (And.intro (And.intro (And.intro @tb_res_31 @tb_isAggT_61) (And.intro @tb_cellsT_61 @tb_zeroT_61)) (And.intro (And.intro @tb_eqT_26 @tb_buildT_61) (And.intro @tb_callable_76 @tb_fieldOff_84_0))) (And.intro (And.intro (And.intro @tb_isAggT_62 @tb_cellsT_62) (And.intro @tb_lenT_62 @tb_indexT_62)) (And.intro (And.intro @tb_fieldOff_89_0 @tb_isAggT_2) (And.intro @tb_cellsT_2 @tb_fieldOff_89_1))))
abbrev tf32 := (And.intro (And.intro (And.intro @tb_res_32 (And.intro @tb_isAggT_61 @tb_cellsT_61)) (And.intro (And.intro @tb_zeroT_61 @tb_eqT_24) (And.intro @tb_buildT_61 @tb_fieldOff_82_0))) (And.intro (And.intro @tb_callable_74 (And.intro @tb_fieldOff_80_0 @tb_isAggT_62)) (And.intro (And.intro @tb_cellsT_62 @tb_indexT_62) (And.intro @tb_fieldOff_89_1 @tb_callable_79))))
abbrev tf33 := (And.intro (And.intro @tb_res_33 (And.intro @tb_lenT_62 @tb_indexT_62)) (And.intro (And.intro @tb_isAggT_89 @tb_cellsT_89) (And.intro @tb_eqT_89 @tb_eqS_89)))
abbrev tf34 := (And.intro (And.intro @tb_res_34 (And.intro @tb_lenT_62 @tb_indexT_62)) (And.intro @tb_isAggT_89 (And.intro @tb_cellsT_89 @tb_buildT_89)))
abbrev tf35 := (And.intro (And.intro (And.intro (And.intro @tb_res_35 @tb_lenT_68) (And.intro @tb_indexT_68 (And.intro @tb_fieldOff_95_0 @tb_isAggT_93))) (And.intro (And.intro @tb_cellsT_93 @tb_callable_80) (And.intro @tb_fieldOff_95_1 (And.intro @tb_isAggT_2 @tb_cellsT_2)))) (And.intro (And.intro (And.intro @tb_fieldOff_95_2 @tb_isAggT_4) (And.intro @tb_cellsT_4 (And.intro @tb_eqT_4 @tb_fieldOff_95_3))) (And.intro (And.intro @tb_fieldOff_95_4 (And.intro @tb_isAggT_61 @tb_cellsT_61)) (And.intro @tb_eqT_61 (And.intro @tb_eqS_61 @tb_fieldOff_95_5)))))
abbrev tf36 := (And.intro (And.intro (And.intro @tb_res_36 @tb_callable_33) (And.intro @tb_lenT_62 @tb_indexT_62)) (And.intro (And.intro @tb_isAggT_89 @tb_cellsT_89) (And.intro @tb_buildT_89 (And.intro @tb_eqT_89 @tb_eqS_89))))
abbrev tf37 := (And.intro (And.intro (And.intro @tb_res_37 (And.intro @tb_fieldOff_58_0 @tb_isAggT_29)) (And.intro (And.intro @tb_cellsT_29 @tb_lenT_29) (And.intro @tb_indexT_29 @tb_isAggT_112))) (And.intro (And.intro (And.intro @tb_cellsT_112 @tb_lenT_112) (And.intro @tb_convT_3_5 @tb_indexT_112)) (And.intro (And.intro @tb_isAggT_5 @tb_cellsT_5) (And.intro @tb_bsT_112_1 @tb_bsT_29_1))))
abbrev tf38 := (And.intro (And.intro (And.intro @tb_res_38 (And.intro @tb_fieldOff_58_1 @tb_isAggT_30)) (And.intro (And.intro @tb_cellsT_30 @tb_lenT_30) (And.intro @tb_indexT_30 @tb_isAggT_113))) (And.intro (And.intro (And.intro @tb_cellsT_113 @tb_lenT_113) (And.intro @tb_callable_81 @tb_indexT_113)) (And.intro (And.intro @tb_isAggT_9 @tb_cellsT_9) (And.intro @tb_bsT_113_1 @tb_bsT_30_1))))
abbrev tf39 := (And.intro (And.intro (And.intro @tb_res_39 (And.intro @tb_fieldOff_58_2 @tb_isAggT_31)) (And.intro (And.intro @tb_cellsT_31 @tb_lenT_31) (And.intro @tb_indexT_31 @tb_isAggT_115))) (And.intro (And.intro @tb_cellsT_115 (And.intro @tb_lenT_115 @tb_indexT_115)) (And.intro (And.intro @tb_isAggT_3 @tb_cellsT_3) (And.intro @tb_bsT_115_1 @tb_bsT_31_1))))
abbrev tf40 := (And.intro (And.intro (And.intro @tb_res_40 (And.intro @tb_fieldOff_58_3 @tb_isAggT_32)) (And.intro (And.intro @tb_cellsT_32 @tb_lenT_32) (And.intro @tb_indexT_32 @tb_isAggT_72))) (And.intro (And.intro @tb_cellsT_72 (And.intro @tb_lenT_72 @tb_indexT_72)) (And.intro (And.intro @tb_isAggT_2 @tb_cellsT_2) (And.intro @tb_bsT_72_1 @tb_bsT_32_1))))
abbrev tf41 := (And.intro (And.intro (And.intro @tb_res_41 (And.intro @tb_fieldOff_58_4 @tb_isAggT_33)) (And.intro (And.intro @tb_cellsT_33 @tb_lenT_33) (And.intro @tb_indexT_33 @tb_isAggT_116))) (And.intro (And.intro (And.intro @tb_cellsT_116 @tb_lenT_116) (And.intro @tb_convT_3_117 @tb_indexT_116)) (And.intro (And.intro @tb_isAggT_117 @tb_cellsT_117) (And.intro @tb_bsT_116_1 @tb_bsT_33_1))))
abbrev tf42 := (And.intro (And.intro (And.intro (And.intro @tb_res_42 @tb_fieldOff_58_5) (And.intro @tb_isAggT_34 @tb_cellsT_34)) (And.intro (And.intro @tb_lenT_34 @tb_indexT_34) (And.intro @tb_isAggT_91 (And.intro @tb_cellsT_91 @tb_lenT_91)))) (And.intro (And.intro (And.intro @tb_callable_81 @tb_buildT_119) (And.intro @tb_indexT_91 (And.intro @tb_isAggT_119 @tb_cellsT_119))) (And.intro (And.intro @tb_bsT_91_1 @tb_bsT_34_1) (And.intro @tb_zeroT_119 (And.intro @tb_eqT_119 @tb_eqS_119)))))
abbrev tf43 := (And.intro (And.intro (And.intro (And.intro @tb_res_43 @tb_fieldOff_58_6) (And.intro @tb_isAggT_35 @tb_cellsT_35)) (And.intro (And.intro @tb_lenT_35 @tb_indexT_35) (And.intro @tb_isAggT_120 (And.intro @tb_cellsT_120 @tb_lenT_120)))) (And.intro (And.intro (And.intro @tb_callable_81 @tb_buildT_122) (And.intro @tb_indexT_120 (And.intro @tb_isAggT_122 @tb_cellsT_122))) (And.intro (And.intro @tb_bsT_120_1 @tb_bsT_35_1) (And.intro @tb_zeroT_122 (And.intro @tb_eqT_122 @tb_eqS_122)))))
abbrev tf44 := (And.intro (And.intro (And.intro (And.intro @tb_res_44 @tb_fieldOff_58_7) (And.intro @tb_isAggT_36 @tb_cellsT_36)) (And.intro (And.intro @tb_lenT_36 @tb_indexT_36) (And.intro @tb_isAggT_62 (And.intro @tb_cellsT_62 @tb_lenT_62)))) (And.intro (And.intro (And.intro @tb_buildT_89 @tb_indexT_62) (And.intro @tb_isAggT_89 @tb_cellsT_89)) (And.intro (And.intro @tb_bsT_62_1 @tb_bsT_36_1) (And.intro @tb_zeroT_89 (And.intro @tb_eqT_89 @tb_eqS_89)))))
abbrev tf45 := (And.intro (And.intro (And.intro (And.intro @tb_res_45 @tb_fieldOff_58_8) (And.intro @tb_isAggT_37 @tb_cellsT_37)) (And.intro (And.intro @tb_lenT_37 @tb_indexT_37) (And.intro @tb_isAggT_123 (And.intro @tb_cellsT_123 @tb_lenT_123)))) (And.intro (And.intro (And.intro @tb_buildT_127 @tb_indexT_123) (And.intro @tb_isAggT_127 @tb_cellsT_127)) (And.intro (And.intro @tb_bsT_123_1 @tb_bsT_37_1) (And.intro @tb_zeroT_127 (And.intro @tb_eqT_127 @tb_eqS_127)))))
abbrev tf46 := (And.intro (And.intro (And.intro (And.intro @tb_res_46 @tb_fieldOff_58_9) (And.intro @tb_isAggT_38 @tb_cellsT_38)) (And.intro (And.intro @tb_lenT_38 @tb_indexT_38) (And.intro @tb_isAggT_128 (And.intro @tb_cellsT_128 @tb_lenT_128)))) (And.intro (And.intro (And.intro @tb_callable_81 @tb_buildT_130) (And.intro @tb_indexT_128 (And.intro @tb_isAggT_130 @tb_cellsT_130))) (And.intro (And.intro @tb_bsT_128_1 @tb_bsT_38_1) (And.intro @tb_zeroT_130 (And.intro @tb_eqT_130 @tb_eqS_130)))))
abbrev tf47 := (And.intro (And.intro (And.intro (And.intro @tb_res_47 @tb_fieldOff_58_10) (And.intro @tb_isAggT_39 @tb_cellsT_39)) (And.intro (And.intro @tb_lenT_39 @tb_indexT_39) (And.intro @tb_isAggT_131 (And.intro @tb_cellsT_131 @tb_lenT_131)))) (And.intro (And.intro (And.intro @tb_callable_81 @tb_buildT_133) (And.intro @tb_indexT_131 (And.intro @tb_isAggT_133 @tb_cellsT_133))) (And.intro (And.intro @tb_bsT_131_1 @tb_bsT_39_1) (And.intro @tb_zeroT_133 (And.intro @tb_eqT_133 @tb_eqS_133)))))
abbrev tf48 := (And.intro (And.intro (And.intro (And.intro @tb_res_48 @tb_fieldOff_58_11) (And.intro @tb_isAggT_40 @tb_cellsT_40)) (And.intro (And.intro @tb_lenT_40 @tb_indexT_40) (And.intro @tb_isAggT_134 (And.intro @tb_cellsT_134 @tb_lenT_134)))) (And.intro (And.intro (And.intro @tb_buildT_137 @tb_indexT_134) (And.intro @tb_isAggT_137 @tb_cellsT_137)) (And.intro (And.intro @tb_bsT_134_1 @tb_bsT_40_1) (And.intro @tb_zeroT_137 (And.intro @tb_eqT_137 @tb_eqS_137)))))
abbrev tf49 := (And.intro (And.intro (And.intro (And.intro @tb_res_49 @tb_fieldOff_58_12) (And.intro @tb_isAggT_41 @tb_cellsT_41)) (And.intro (And.intro @tb_lenT_41 @tb_indexT_41) (And.intro @tb_isAggT_138 (And.intro @tb_cellsT_138 @tb_lenT_138)))) (And.intro (And.intro (And.intro @tb_callable_81 @tb_buildT_140) (And.intro @tb_indexT_138 (And.intro @tb_isAggT_140 @tb_cellsT_140))) (And.intro (And.intro @tb_bsT_138_1 @tb_bsT_41_1) (And.intro @tb_zeroT_140 (And.intro @tb_eqT_140 @tb_eqS_140)))))
abbrev tf50 := (And.intro (And.intro (And.intro (And.intro @tb_res_50 @tb_fieldOff_58_13) (And.intro @tb_isAggT_42 @tb_cellsT_42)) (And.intro (And.intro @tb_lenT_42 @tb_indexT_42) (And.intro @tb_isAggT_141 (And.intro @tb_cellsT_141 @tb_lenT_141)))) (And.intro (And.intro (And.intro @tb_buildT_61 @tb_buildT_143) (And.intro @tb_indexT_141 @tb_isAggT_143)) (And.intro (And.intro @tb_cellsT_143 @tb_bsT_141_1) (And.intro @tb_bsT_42_1 (And.intro @tb_zeroT_143 @tb_eqT_143)))))
abbrev tf51 := (And.intro (And.intro (And.intro (And.intro @tb_res_51 @tb_fieldOff_58_14) (And.intro @tb_isAggT_43 @tb_cellsT_43)) (And.intro (And.intro @tb_lenT_43 @tb_indexT_43) (And.intro @tb_isAggT_144 (And.intro @tb_cellsT_144 @tb_lenT_144)))) (And.intro (And.intro (And.intro @tb_callable_81 @tb_buildT_147) (And.intro @tb_indexT_144 (And.intro @tb_isAggT_147 @tb_cellsT_147))) (And.intro (And.intro @tb_bsT_144_1 @tb_bsT_43_1) (And.intro @tb_zeroT_147 (And.intro @tb_eqT_147 @tb_eqS_147)))))
abbrev tf52 := (And.intro (And.intro (And.intro (And.intro @tb_res_52 @tb_fieldOff_58_15) (And.intro @tb_isAggT_44 @tb_cellsT_44)) (And.intro (And.intro @tb_lenT_44 @tb_indexT_44) (And.intro @tb_isAggT_148 @tb_cellsT_148))) (And.intro (And.intro (And.intro @tb_lenT_148 @tb_buildT_152) (And.intro @tb_indexT_148 @tb_isAggT_152)) (And.intro (And.intro @tb_cellsT_152 @tb_bsT_148_1) (And.intro @tb_bsT_44_1 (And.intro @tb_zeroT_152 @tb_eqT_152)))))
abbrev tf53 := (And.intro (And.intro (And.intro (And.intro @tb_res_53 @tb_fieldOff_58_16) (And.intro @tb_isAggT_45 @tb_cellsT_45)) (And.intro (And.intro @tb_lenT_45 @tb_indexT_45) (And.intro @tb_isAggT_153 (And.intro @tb_cellsT_153 @tb_lenT_153)))) (And.intro (And.intro (And.intro @tb_callable_81 @tb_buildT_155) (And.intro @tb_indexT_153 (And.intro @tb_isAggT_155 @tb_cellsT_155))) (And.intro (And.intro @tb_bsT_153_1 @tb_bsT_45_1) (And.intro @tb_zeroT_155 (And.intro @tb_eqT_155 @tb_eqS_155)))))
abbrev tf54 := (And.intro (And.intro (And.intro (And.intro @tb_res_54 @tb_fieldOff_58_17) (And.intro @tb_isAggT_46 (And.intro @tb_cellsT_46 @tb_lenT_46))) (And.intro (And.intro @tb_indexT_46 @tb_isAggT_156) (And.intro @tb_cellsT_156 (And.intro @tb_lenT_156 @tb_callable_81)))) (And.intro (And.intro (And.intro @tb_buildT_158 @tb_indexT_156) (And.intro @tb_isAggT_158 (And.intro @tb_cellsT_158 @tb_bsT_156_1))) (And.intro (And.intro @tb_bsT_46_1 @tb_zeroT_158) (And.intro @tb_fieldOff_158_0 (And.intro @tb_isAggT_9 @tb_cellsT_9)))))
abbrev tf55 := (And.intro (And.intro (And.intro (And.intro @tb_res_55 @tb_fieldOff_58_18) (And.intro @tb_isAggT_47 (And.intro @tb_cellsT_47 @tb_lenT_47))) (And.intro (And.intro @tb_indexT_47 @tb_isAggT_159) (And.intro @tb_cellsT_159 (And.intro @tb_lenT_159 @tb_buildT_89)))) (And.intro (And.intro (And.intro @tb_buildT_161 @tb_indexT_159) (And.intro @tb_isAggT_161 (And.intro @tb_cellsT_161 @tb_bsT_159_1))) (And.intro (And.intro @tb_bsT_47_1 (And.intro @tb_zeroT_161 @tb_fieldOff_161_1)) (And.intro @tb_fieldOff_89_0 (And.intro @tb_isAggT_2 @tb_cellsT_2)))))
abbrev tf56 := (And.intro (And.intro (And.intro (And.intro @tb_res_56 @tb_fieldOff_58_19) (And.intro @tb_isAggT_48 @tb_cellsT_48)) (And.intro (And.intro @tb_lenT_48 @tb_indexT_48) (And.intro @tb_isAggT_68 (And.intro @tb_cellsT_68 @tb_lenT_68)))) (And.intro (And.intro (And.intro @tb_buildT_95 @tb_indexT_68) (And.intro @tb_isAggT_95 (And.intro @tb_cellsT_95 @tb_bsT_68_1))) (And.intro (And.intro @tb_bsT_48_1 @tb_zeroT_95) (And.intro @tb_fieldOff_95_1 (And.intro @tb_isAggT_2 @tb_cellsT_2)))))
abbrev tf57 := (And.intro (And.intro (And.intro (And.intro @tb_res_57 @tb_fieldOff_58_20) (And.intro @tb_isAggT_49 (And.intro @tb_cellsT_49 @tb_lenT_49))) (And.intro (And.intro @tb_indexT_49 @tb_isAggT_162) (And.intro @tb_cellsT_162 (And.intro @tb_lenT_162 @tb_callable_81)))) (And.intro (And.intro (And.intro @tb_buildT_93 @tb_indexT_162) (And.intro @tb_isAggT_93 (And.intro @tb_cellsT_93 @tb_bsT_162_1))) (And.intro (And.intro @tb_bsT_49_1 @tb_zeroT_93) (And.intro @tb_fieldOff_93_0 (And.intro @tb_isAggT_9 @tb_cellsT_9)))))
abbrev tf58 := (And.intro (And.intro (And.intro (And.intro @tb_res_58 @tb_fieldOff_58_21) (And.intro @tb_isAggT_50 @tb_cellsT_50)) (And.intro (And.intro @tb_lenT_50 @tb_indexT_50) (And.intro @tb_isAggT_163 (And.intro @tb_cellsT_163 @tb_lenT_163)))) (And.intro (And.intro (And.intro @tb_buildT_165 @tb_indexT_163) (And.intro @tb_isAggT_165 (And.intro @tb_cellsT_165 @tb_bsT_163_1))) (And.intro (And.intro @tb_bsT_50_1 @tb_zeroT_165) (And.intro @tb_fieldOff_165_2 (And.intro @tb_isAggT_3 @tb_cellsT_3)))))
abbrev tf59 := (And.intro (And.intro (And.intro (And.intro @tb_res_59 @tb_fieldOff_58_22) (And.intro @tb_isAggT_51 (And.intro @tb_cellsT_51 @tb_lenT_51))) (And.intro (And.intro @tb_indexT_51 @tb_isAggT_166) (And.intro @tb_cellsT_166 (And.intro @tb_lenT_166 @tb_callable_81)))) (And.intro (And.intro (And.intro @tb_buildT_168 @tb_indexT_166) (And.intro @tb_isAggT_168 (And.intro @tb_cellsT_168 @tb_bsT_166_1))) (And.intro (And.intro @tb_bsT_51_1 @tb_zeroT_168) (And.intro @tb_fieldOff_168_0 (And.intro @tb_isAggT_9 @tb_cellsT_9)))))
abbrev tf60 := (And.intro (And.intro (And.intro (And.intro @tb_res_60 @tb_fieldOff_58_23) (And.intro @tb_isAggT_52 (And.intro @tb_cellsT_52 @tb_lenT_52))) (And.intro (And.intro @tb_indexT_52 @tb_isAggT_169) (And.intro @tb_cellsT_169 (And.intro @tb_lenT_169 @tb_callable_81)))) (And.intro (And.intro (And.intro @tb_buildT_171 @tb_indexT_169) (And.intro @tb_isAggT_171 (And.intro @tb_cellsT_171 @tb_bsT_169_1))) (And.intro (And.intro @tb_bsT_52_1 @tb_zeroT_171) (And.intro @tb_fieldOff_171_0 (And.intro @tb_isAggT_9 @tb_cellsT_9)))))
abbrev tf61 := (And.intro (And.intro (And.intro (And.intro @tb_res_61 @tb_fieldOff_58_24) (And.intro @tb_isAggT_53 (And.intro @tb_cellsT_53 @tb_lenT_53))) (And.intro (And.intro @tb_indexT_53 @tb_isAggT_30) (And.intro @tb_cellsT_30 (And.intro @tb_lenT_30 @tb_callable_81)))) (And.intro (And.intro (And.intro @tb_bsT_113_1 @tb_indexT_30) (And.intro @tb_isAggT_113 (And.intro @tb_cellsT_113 @tb_bsT_30_1))) (And.intro (And.intro @tb_bsT_53_1 @tb_lenT_113) (And.intro @tb_indexT_113 (And.intro @tb_isAggT_9 @tb_cellsT_9)))))
abbrev tf62 := (And.intro (And.intro (And.intro (And.intro @tb_res_62 @tb_fieldOff_58_25) (And.intro @tb_isAggT_54 @tb_cellsT_54)) (And.intro (And.intro @tb_lenT_54 @tb_indexT_54) (And.intro @tb_isAggT_172 (And.intro @tb_cellsT_172 @tb_lenT_172)))) (And.intro (And.intro (And.intro @tb_buildT_174 @tb_indexT_172) (And.intro @tb_isAggT_174 (And.intro @tb_cellsT_174 @tb_bsT_172_1))) (And.intro (And.intro @tb_bsT_54_1 @tb_zeroT_174) (And.intro @tb_fieldOff_174_0 (And.intro @tb_isAggT_2 @tb_cellsT_2)))))
abbrev tf63 := (And.intro (And.intro (And.intro (And.intro @tb_res_63 @tb_fieldOff_58_26) (And.intro @tb_isAggT_55 (And.intro @tb_cellsT_55 @tb_lenT_55))) (And.intro (And.intro @tb_indexT_55 @tb_isAggT_175) (And.intro @tb_cellsT_175 (And.intro @tb_lenT_175 @tb_buildT_174)))) (And.intro (And.intro (And.intro @tb_buildT_177 @tb_indexT_175) (And.intro @tb_isAggT_177 (And.intro @tb_cellsT_177 @tb_bsT_175_1))) (And.intro (And.intro @tb_bsT_55_1 (And.intro @tb_zeroT_177 @tb_fieldOff_177_0)) (And.intro @tb_fieldOff_174_0 (And.intro @tb_isAggT_2 @tb_cellsT_2)))))
abbrev tf64 := (And.intro (And.intro (And.intro (And.intro @tb_res_64 @tb_fieldOff_58_27) (And.intro @tb_isAggT_56 (And.intro @tb_cellsT_56 @tb_lenT_56))) (And.intro (And.intro @tb_indexT_56 @tb_isAggT_178) (And.intro @tb_cellsT_178 (And.intro @tb_lenT_178 @tb_callable_81)))) (And.intro (And.intro (And.intro @tb_buildT_180 @tb_indexT_178) (And.intro @tb_isAggT_180 (And.intro @tb_cellsT_180 @tb_bsT_178_1))) (And.intro (And.intro @tb_bsT_56_1 @tb_zeroT_180) (And.intro @tb_fieldOff_180_0 (And.intro @tb_isAggT_9 @tb_cellsT_9)))))
abbrev tf65 := (And.intro (And.intro @tb_res_65 @tb_isAggT_89) (And.intro @tb_cellsT_89 (And.intro @tb_zeroT_89 @tb_callable_82)))
abbrev tf66 := (And.intro (And.intro @tb_res_66 @tb_isAggT_89) (And.intro @tb_cellsT_89 (And.intro @tb_zeroT_89 @tb_callable_83)))
abbrev tf67 := (And.intro (And.intro @tb_res_67 (And.intro @tb_isAggT_89 @tb_cellsT_89)) (And.intro @tb_zeroT_89 (And.intro @tb_callable_20 @tb_callable_82)))
abbrev tf68 := (And.intro (And.intro @tb_res_68 (And.intro @tb_isAggT_89 @tb_cellsT_89)) (And.intro @tb_zeroT_89 (And.intro @tb_callable_69 @tb_callable_83)))
abbrev tf69 := (And.intro (And.intro @tb_res_69 (And.intro @tb_eqT_26 @tb_fieldOff_84_0)) (And.intro @tb_isAggT_62 (And.intro @tb_cellsT_62 @tb_lenT_62)))
abbrev tf70 := (And.intro (And.intro (And.intro @tb_res_70 @tb_isAggT_89) (And.intro @tb_cellsT_89 @tb_zeroT_89)) (And.intro (And.intro @tb_eqT_24 @tb_buildT_89) (And.intro @tb_fieldOff_82_0 (And.intro @tb_callable_74 @tb_callable_82))))
abbrev tf71 := (And.intro (And.intro @tb_res_71 (And.intro @tb_isAggT_89 @tb_cellsT_89)) (And.intro @tb_zeroT_89 (And.intro @tb_callable_76 @tb_callable_83)))
abbrev tf72 := (And.intro (And.intro (And.intro @tb_res_72 @tb_isAggT_89) (And.intro @tb_cellsT_89 @tb_zeroT_89)) (And.intro (And.intro @tb_eqT_24 @tb_buildT_89) (And.intro @tb_fieldOff_82_0 (And.intro @tb_callable_74 @tb_callable_82))))
abbrev tf73 := (And.intro (And.intro @tb_res_73 (And.intro @tb_isAggT_89 @tb_cellsT_89)) (And.intro @tb_zeroT_89 (And.intro @tb_callable_76 @tb_callable_83)))
abbrev tf74 := (And.intro (And.intro @tb_res_74 @tb_fieldOff_80_0) (And.intro @tb_isAggT_62 (And.intro @tb_cellsT_62 @tb_callable_84)))
abbrev tf75 := (And.intro (And.intro @tb_res_75 @tb_indexT_62) (And.intro @tb_lenT_62 (And.intro @tb_callable_87 @tb_callable_88)))
abbrev tf76 := (And.intro (And.intro (And.intro @tb_res_76 @tb_eqT_26) (And.intro @tb_fieldOff_84_0 (And.intro @tb_isAggT_62 @tb_cellsT_62))) (And.intro (And.intro @tb_lenT_62 @tb_indexT_62) (And.intro @tb_fieldOff_89_0 (And.intro @tb_isAggT_2 @tb_cellsT_2))))
abbrev tf77 := (And.intro (And.intro (And.intro @tb_res_77 (And.intro @tb_callable_89 @tb_callable_90)) (And.intro (And.intro @tb_callable_91 @tb_callable_92) (And.intro @tb_callable_93 @tb_callable_94))) (And.intro (And.intro @tb_indexT_72 (And.intro @tb_isAggT_2 @tb_cellsT_2)) (And.intro (And.intro @tb_callable_95 @tb_callable_96) (And.intro @tb_callable_97 @tb_callable_77))))
abbrev tf78 := (And.intro (And.intro @tb_res_78 @tb_convT_109_196) (And.intro @tb_callable_98 @tb_callable_99))
abbrev tf79 := (And.intro @tb_res_79 (And.intro @tb_lenT_62 @tb_indexT_62))
abbrev tf80 := (And.intro (And.intro (And.intro @tb_res_80 @tb_zeroT_93) (And.intro @tb_fieldOff_93_0 (And.intro @tb_isAggT_9 @tb_cellsT_9))) (And.intro (And.intro @tb_fieldOff_93_2 @tb_fieldOff_93_1) (And.intro @tb_isAggT_91 (And.intro @tb_cellsT_91 @tb_callable_100))))
abbrev tf81 := (And.intro (And.intro @tb_res_81 @tb_convT_3_5) (And.intro @tb_bsT_112_3 @tb_convT_112_9))
abbrev tf82 := (And.intro (And.intro (And.intro @tb_res_82 (And.intro @tb_isAggT_89 @tb_cellsT_89)) (And.intro @tb_zeroT_89 (And.intro @tb_eqT_24 @tb_fieldOff_82_0))) (And.intro (And.intro @tb_fieldOff_80_0 (And.intro @tb_isAggT_62 @tb_cellsT_62)) (And.intro @tb_lenT_62 (And.intro @tb_buildT_89 @tb_indexT_62))))
abbrev tf83 := (And.intro (And.intro (And.intro @tb_res_83 @tb_isAggT_89) (And.intro @tb_cellsT_89 (And.intro @tb_zeroT_89 @tb_eqT_26))) (And.intro (And.intro @tb_fieldOff_84_0 (And.intro @tb_isAggT_62 @tb_cellsT_62)) (And.intro @tb_lenT_62 (And.intro @tb_buildT_89 @tb_indexT_62))))
abbrev tf84 := (And.intro (And.intro @tb_res_84 (And.intro @tb_lenT_62 @tb_convT_3_109)) (And.intro (And.intro @tb_convT_109_3 @tb_indexT_62) (And.intro @tb_isAggT_89 @tb_cellsT_89)))
abbrev tf85 := (And.intro (And.intro @tb_res_85 (And.intro @tb_zeroT_89 @tb_fieldOff_89_0)) (And.intro @tb_isAggT_2 (And.intro @tb_cellsT_2 @tb_callable_86)))
abbrev tf86 := (And.intro @tb_res_86 @tb_callable_101)
abbrev tf88 := (And.intro @tb_res_88 (And.intro @tb_lenT_62 @tb_callable_102))
abbrev tf89 := (And.intro (And.intro @tb_res_89 @tb_indexT_72) (And.intro @tb_isAggT_2 (And.intro @tb_cellsT_2 @tb_callable_95)))
abbrev tf90 := (And.intro (And.intro @tb_res_90 @tb_callable_103) (And.intro @tb_indexT_72 (And.intro @tb_isAggT_2 @tb_cellsT_2)))
abbrev tf91 := (And.intro (And.intro (And.intro @tb_res_91 @tb_convT_3_200) (And.intro @tb_zeroT_200 (And.intro @tb_isAggT_200 @tb_cellsT_200))) (And.intro (And.intro @tb_callable_104 (And.intro @tb_callable_105 @tb_convT_109_3)) (And.intro @tb_indexT_72 (And.intro @tb_isAggT_2 @tb_cellsT_2))))
abbrev tf92 := (And.intro (And.intro @tb_res_92 (And.intro @tb_zeroT_3 @tb_callable_106)) (And.intro @tb_callable_107 (And.intro @tb_isAggT_3 @tb_cellsT_3)))
abbrev tf93 := (And.intro (And.intro @tb_res_93 @tb_indexT_72) (And.intro @tb_isAggT_2 @tb_cellsT_2))
abbrev tf94 := (And.intro (And.intro @tb_res_94 @tb_indexT_72) (And.intro @tb_isAggT_2 (And.intro @tb_cellsT_2 @tb_callable_95)))
abbrev tf95 := (And.intro @tb_res_95 @tb_callable_101)
abbrev tf96 := (And.intro (And.intro @tb_res_96 @tb_indexT_72) (And.intro @tb_isAggT_2 (And.intro @tb_cellsT_2 @tb_callable_95)))
abbrev tf97 := (And.intro (And.intro @tb_res_97 @tb_indexT_72) (And.intro @tb_isAggT_2 (And.intro @tb_cellsT_2 @tb_callable_95)))
abbrev tf98 := (And.intro (And.intro @tb_res_98 @tb_convT_196_5) (And.intro @tb_indexT_9 @tb_convT_5_3))
abbrev tf99 := (And.intro (And.intro @tb_res_99 @tb_convT_117_5) (And.intro @tb_indexT_9 @tb_convT_5_3))
abbrev tf100 := (And.intro (And.intro @tb_res_100 (And.intro @tb_lenT_91 @tb_indexT_91)) (And.intro (And.intro @tb_isAggT_119 @tb_cellsT_119) (And.intro @tb_eqT_119 @tb_eqS_119)))
abbrev tf101 := @tb_res_101
abbrev tf102 := (And.intro @tb_res_102 (And.intro @tb_indexT_62 @tb_callable_108))
abbrev tf103 := (And.intro (And.intro @tb_res_103 @tb_indexT_72) (And.intro @tb_isAggT_2 (And.intro @tb_cellsT_2 @tb_callable_95)))
abbrev tf104 := (And.intro @tb_res_104 (And.intro @tb_convT_3_109 @tb_callable_78))
abbrev tf105 := (And.intro @tb_res_105 (And.intro @tb_isAggT_200 @tb_cellsT_200))
abbrev tf106 := (And.intro @tb_res_106 @tb_callable_107)
abbrev tf107 := (And.intro @tb_res_107 @tb_callable_109)
abbrev tf108 := (And.intro (And.intro @tb_res_108 @tb_lenT_62) (And.intro @tb_indexT_62 (And.intro @tb_isAggT_89 @tb_cellsT_89)))
abbrev tf109 := (And.intro (And.intro @tb_res_109 (And.intro @tb_indexT_72 @tb_isAggT_2)) (And.intro (And.intro @tb_cellsT_2 @tb_callable_95) (And.intro @tb_isAggT_3 @tb_cellsT_3)))
end Go.Proofs.YtcnebgokbjpjnaaGreat
