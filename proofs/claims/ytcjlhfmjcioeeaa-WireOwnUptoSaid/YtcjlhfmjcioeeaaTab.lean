/- Closed facts on the tables of the program, each by the kernel: written by a program. -/
import Derived.Test.YtcjlhfmjcioeeaaDen
import Derived.Test.YtcjlhfmjcioeeaaProg
import Derived.KernelRfl
set_option maxRecDepth 100000
namespace Go.Proofs.Ytcjlhfmjcioeeaa
open Go
theorem mixed : Try.prog.follows .mixedOrders = true := by kernel_rfl
theorem tb_bsT_118_1 : bsT Try.prog 118 1 = some (9, 1, #[.string ByteArray.empty]) := by kernel_rfl
theorem tb_bsT_119_1 : bsT Try.prog 119 1 = some (3, 1, #[.int .i64 0]) := by kernel_rfl
theorem tb_bsT_120_1 : bsT Try.prog 120 1 = some (2, 1, #[.int .i64 0]) := by kernel_rfl
theorem tb_bsT_121_1 : bsT Try.prog 121 1 = some (34, 1, #[.int .u64 0]) := by kernel_rfl
theorem tb_bsT_122_1 : bsT Try.prog 122 1 = some (124, 2, #[.string ByteArray.empty, .string ByteArray.empty]) := by kernel_rfl
theorem tb_bsT_125_1 : bsT Try.prog 125 1 = some (127, 2, #[.string ByteArray.empty, .int .i64 0]) := by kernel_rfl
theorem tb_bsT_128_1 : bsT Try.prog 128 1 = some (133, 3, #[.int .i64 0, .int .u8 0, .int .i64 0]) := by kernel_rfl
theorem tb_bsT_134_1 : bsT Try.prog 134 1 = some (138, 6, #[.int .u8 0, .int .u8 0, .string ByteArray.empty, .int .i64 0, .int .i64 0, .int .i64 0]) := by kernel_rfl
theorem tb_bsT_139_1 : bsT Try.prog 139 1 = some (141, 2, #[.string ByteArray.empty, .int .i64 0]) := by kernel_rfl
theorem tb_bsT_142_1 : bsT Try.prog 142 1 = some (144, 2, #[.int .u8 0, .string ByteArray.empty]) := by kernel_rfl
theorem tb_bsT_145_1 : bsT Try.prog 145 1 = some (148, 3, #[.int .u8 0, .int .i64 0, .int .i64 0]) := by kernel_rfl
theorem tb_bsT_149_1 : bsT Try.prog 149 1 = some (151, 2, #[.int .i64 0, .string ByteArray.empty]) := by kernel_rfl
theorem tb_bsT_152_1 : bsT Try.prog 152 1 = some (154, 3, #[.bool false, .int .u8 0, .int .i64 0]) := by kernel_rfl
theorem tb_bsT_155_1 : bsT Try.prog 155 1 = some (158, 4, #[.int .u8 0, .string ByteArray.empty, .int .i64 0, .int .i64 0]) := by kernel_rfl
theorem tb_bsT_159_1 : bsT Try.prog 159 1 = some (163, 4, #[.bool false, .int .i64 0, .int .i64 0, .int .u64 0]) := by kernel_rfl
theorem tb_bsT_164_1 : bsT Try.prog 164 1 = some (166, 2, #[.string ByteArray.empty, .int .i64 0]) := by kernel_rfl
theorem tb_bsT_167_1 : bsT Try.prog 167 1 = some (169, 4, #[.string ByteArray.empty, .slice none 0 0, .slice none 0 0, .int .i64 0]) := by kernel_rfl
theorem tb_bsT_170_1 : bsT Try.prog 170 1 = some (174, 6, #[.string ByteArray.empty, .slice none 0 0, .string ByteArray.empty, .int .i64 0, .int .u8 0, .int .i64 0]) := by kernel_rfl
theorem tb_bsT_175_1 : bsT Try.prog 175 1 = some (177, 10, #[.string ByteArray.empty, .slice none 0 0, .string ByteArray.empty, .int .i64 0, .bool false, .bool false, .int .u8 0, .int .i64 0, .int .u8 0, .int .i64 0]) := by kernel_rfl
theorem tb_bsT_178_1 : bsT Try.prog 178 1 = some (172, 3, #[.string ByteArray.empty, .slice none 0 0, .string ByteArray.empty]) := by kernel_rfl
theorem tb_bsT_179_1 : bsT Try.prog 179 1 = some (181, 4, #[.slice none 0 0, .string ByteArray.empty, .int .i64 0, .int .i64 0]) := by kernel_rfl
theorem tb_bsT_182_1 : bsT Try.prog 182 1 = some (184, 3, #[.string ByteArray.empty, .slice none 0 0, .slice none 0 0]) := by kernel_rfl
theorem tb_bsT_185_1 : bsT Try.prog 185 1 = some (187, 2, #[.string ByteArray.empty, .slice none 0 0]) := by kernel_rfl
theorem tb_bsT_188_1 : bsT Try.prog 188 1 = some (190, 2, #[.int .i64 0, .slice none 0 0]) := by kernel_rfl
theorem tb_bsT_191_1 : bsT Try.prog 191 1 = some (193, 3, #[.int .i64 0, .slice none 0 0, .slice none 0 0]) := by kernel_rfl
theorem tb_bsT_194_1 : bsT Try.prog 194 1 = some (196, 3, #[.string ByteArray.empty, .slice none 0 0, .slice none 0 0]) := by kernel_rfl
theorem tb_bsT_22_0 : bsT Try.prog 22 0 = some (5, 1, #[]) := by kernel_rfl
theorem tb_bsT_22_1 : bsT Try.prog 22 1 = some (5, 1, #[.int .u8 0]) := by kernel_rfl
theorem tb_bsT_22_3 : bsT Try.prog 22 3 = some (5, 1, #[.int .u8 0, .int .u8 0, .int .u8 0]) := by kernel_rfl
theorem tb_bsT_22_4 : bsT Try.prog 22 4 = some (5, 1, #[.int .u8 0, .int .u8 0, .int .u8 0, .int .u8 0]) := by kernel_rfl
theorem tb_bsT_22_9 : bsT Try.prog 22 9 = some (5, 1, #[.int .u8 0, .int .u8 0, .int .u8 0, .int .u8 0, .int .u8 0, .int .u8 0, .int .u8 0, .int .u8 0, .int .u8 0]) := by kernel_rfl
theorem tb_bsT_51_1 : bsT Try.prog 51 1 = some (22, 1, #[.slice none 0 0]) := by kernel_rfl
theorem tb_bsT_52_1 : bsT Try.prog 52 1 = some (118, 1, #[.slice none 0 0]) := by kernel_rfl
theorem tb_bsT_53_1 : bsT Try.prog 53 1 = some (119, 1, #[.slice none 0 0]) := by kernel_rfl
theorem tb_bsT_54_1 : bsT Try.prog 54 1 = some (120, 1, #[.slice none 0 0]) := by kernel_rfl
theorem tb_bsT_55_1 : bsT Try.prog 55 1 = some (121, 1, #[.slice none 0 0]) := by kernel_rfl
theorem tb_bsT_56_1 : bsT Try.prog 56 1 = some (122, 1, #[.slice none 0 0]) := by kernel_rfl
theorem tb_bsT_57_1 : bsT Try.prog 57 1 = some (125, 1, #[.slice none 0 0]) := by kernel_rfl
theorem tb_bsT_58_1 : bsT Try.prog 58 1 = some (128, 1, #[.slice none 0 0]) := by kernel_rfl
theorem tb_bsT_59_1 : bsT Try.prog 59 1 = some (134, 1, #[.slice none 0 0]) := by kernel_rfl
theorem tb_bsT_60_1 : bsT Try.prog 60 1 = some (139, 1, #[.slice none 0 0]) := by kernel_rfl
theorem tb_bsT_61_1 : bsT Try.prog 61 1 = some (142, 1, #[.slice none 0 0]) := by kernel_rfl
theorem tb_bsT_62_1 : bsT Try.prog 62 1 = some (145, 1, #[.slice none 0 0]) := by kernel_rfl
theorem tb_bsT_63_1 : bsT Try.prog 63 1 = some (149, 1, #[.slice none 0 0]) := by kernel_rfl
theorem tb_bsT_64_1 : bsT Try.prog 64 1 = some (152, 1, #[.slice none 0 0]) := by kernel_rfl
theorem tb_bsT_65_1 : bsT Try.prog 65 1 = some (155, 1, #[.slice none 0 0]) := by kernel_rfl
theorem tb_bsT_66_1 : bsT Try.prog 66 1 = some (159, 1, #[.slice none 0 0]) := by kernel_rfl
theorem tb_bsT_67_1 : bsT Try.prog 67 1 = some (164, 1, #[.slice none 0 0]) := by kernel_rfl
theorem tb_bsT_68_1 : bsT Try.prog 68 1 = some (167, 1, #[.slice none 0 0]) := by kernel_rfl
theorem tb_bsT_69_1 : bsT Try.prog 69 1 = some (170, 1, #[.slice none 0 0]) := by kernel_rfl
theorem tb_bsT_70_1 : bsT Try.prog 70 1 = some (175, 1, #[.slice none 0 0]) := by kernel_rfl
theorem tb_bsT_71_1 : bsT Try.prog 71 1 = some (178, 1, #[.slice none 0 0]) := by kernel_rfl
theorem tb_bsT_72_1 : bsT Try.prog 72 1 = some (179, 1, #[.slice none 0 0]) := by kernel_rfl
theorem tb_bsT_73_1 : bsT Try.prog 73 1 = some (182, 1, #[.slice none 0 0]) := by kernel_rfl
theorem tb_bsT_74_1 : bsT Try.prog 74 1 = some (185, 1, #[.slice none 0 0]) := by kernel_rfl
theorem tb_bsT_75_1 : bsT Try.prog 75 1 = some (52, 1, #[.slice none 0 0]) := by kernel_rfl
theorem tb_bsT_76_1 : bsT Try.prog 76 1 = some (188, 1, #[.slice none 0 0]) := by kernel_rfl
theorem tb_bsT_77_1 : bsT Try.prog 77 1 = some (191, 1, #[.slice none 0 0]) := by kernel_rfl
theorem tb_bsT_78_1 : bsT Try.prog 78 1 = some (194, 1, #[.slice none 0 0]) := by kernel_rfl
theorem tb_buildT_101 : buildT Try.prog 101 = some (#[.int .u32 0, .int .u32 0, .int .u32 0, .int .u32 0, .int .u32 0, .int .u32 0, .int .u32 0, .int .u32 0, .int .u32 0, .int .u32 0, .int .u32 0, .int .u32 0, .int .u32 0, .int .u32 0, .int .u32 0, .int .u32 0], [(0, 1), (1, 1), (2, 1), (3, 1), (4, 1), (5, 1), (6, 1), (7, 1), (8, 1), (9, 1), (10, 1), (11, 1), (12, 1), (13, 1), (14, 1), (15, 1)]) := by kernel_rfl
theorem tb_buildT_110 : buildT Try.prog 110 = some (#[.slice none 0 0, .int .i64 0, .int .i64 0], [(0, 1), (1, 1), (2, 1)]) := by kernel_rfl
theorem tb_buildT_112 : buildT Try.prog 112 = some (#[.slice none 0 0, .int .i64 0, .int .i64 0, .nilIface], [(0, 3), (3, 1)]) := by kernel_rfl
theorem tb_buildT_124 : buildT Try.prog 124 = some (#[.string ByteArray.empty, .string ByteArray.empty], [(0, 1), (1, 1)]) := by kernel_rfl
theorem tb_buildT_127 : buildT Try.prog 127 = some (#[.string ByteArray.empty, .int .i64 0], [(0, 1), (1, 1)]) := by kernel_rfl
theorem tb_buildT_131 : buildT Try.prog 131 = some (#[.int .u8 0, .int .i64 0], [(0, 1), (1, 1)]) := by kernel_rfl
theorem tb_buildT_133 : buildT Try.prog 133 = some (#[.int .i64 0, .int .u8 0, .int .i64 0], [(0, 1), (1, 2)]) := by kernel_rfl
theorem tb_buildT_138 : buildT Try.prog 138 = some (#[.int .u8 0, .int .u8 0, .string ByteArray.empty, .int .i64 0, .int .i64 0, .int .i64 0], [(0, 1), (1, 1), (2, 1), (3, 1), (4, 1), (5, 1)]) := by kernel_rfl
theorem tb_buildT_141 : buildT Try.prog 141 = some (#[.string ByteArray.empty, .int .i64 0], [(0, 1), (1, 1)]) := by kernel_rfl
theorem tb_buildT_144 : buildT Try.prog 144 = some (#[.int .u8 0, .string ByteArray.empty], [(0, 1), (1, 1)]) := by kernel_rfl
theorem tb_buildT_148 : buildT Try.prog 148 = some (#[.int .u8 0, .int .i64 0, .int .i64 0], [(0, 1), (1, 1), (2, 1)]) := by kernel_rfl
theorem tb_buildT_151 : buildT Try.prog 151 = some (#[.int .i64 0, .string ByteArray.empty], [(0, 1), (1, 1)]) := by kernel_rfl
theorem tb_buildT_154 : buildT Try.prog 154 = some (#[.bool false, .int .u8 0, .int .i64 0], [(0, 1), (1, 2)]) := by kernel_rfl
theorem tb_buildT_158 : buildT Try.prog 158 = some (#[.int .u8 0, .string ByteArray.empty, .int .i64 0, .int .i64 0], [(0, 1), (1, 1), (2, 1), (3, 1)]) := by kernel_rfl
theorem tb_buildT_163 : buildT Try.prog 163 = some (#[.bool false, .int .i64 0, .int .i64 0, .int .u64 0], [(0, 1), (1, 1), (2, 2)]) := by kernel_rfl
theorem tb_buildT_166 : buildT Try.prog 166 = some (#[.string ByteArray.empty, .int .i64 0], [(0, 1), (1, 1)]) := by kernel_rfl
theorem tb_buildT_169 : buildT Try.prog 169 = some (#[.string ByteArray.empty, .slice none 0 0, .slice none 0 0, .int .i64 0], [(0, 1), (1, 1), (2, 1), (3, 1)]) := by kernel_rfl
theorem tb_buildT_172 : buildT Try.prog 172 = some (#[.string ByteArray.empty, .slice none 0 0, .string ByteArray.empty], [(0, 1), (1, 1), (2, 1)]) := by kernel_rfl
theorem tb_buildT_174 : buildT Try.prog 174 = some (#[.string ByteArray.empty, .slice none 0 0, .string ByteArray.empty, .int .i64 0, .int .u8 0, .int .i64 0], [(0, 3), (3, 3)]) := by kernel_rfl
theorem tb_buildT_177 : buildT Try.prog 177 = some (#[.string ByteArray.empty, .slice none 0 0, .string ByteArray.empty, .int .i64 0, .bool false, .bool false, .int .u8 0, .int .i64 0, .int .u8 0, .int .i64 0], [(0, 3), (3, 1), (4, 1), (5, 1), (6, 2), (8, 2)]) := by kernel_rfl
theorem tb_buildT_181 : buildT Try.prog 181 = some (#[.slice none 0 0, .string ByteArray.empty, .int .i64 0, .int .i64 0], [(0, 1), (1, 2), (3, 1)]) := by kernel_rfl
theorem tb_buildT_184 : buildT Try.prog 184 = some (#[.string ByteArray.empty, .slice none 0 0, .slice none 0 0], [(0, 1), (1, 1), (2, 1)]) := by kernel_rfl
theorem tb_buildT_187 : buildT Try.prog 187 = some (#[.string ByteArray.empty, .slice none 0 0], [(0, 1), (1, 1)]) := by kernel_rfl
theorem tb_buildT_190 : buildT Try.prog 190 = some (#[.int .i64 0, .slice none 0 0], [(0, 1), (1, 1)]) := by kernel_rfl
theorem tb_buildT_193 : buildT Try.prog 193 = some (#[.int .i64 0, .slice none 0 0, .slice none 0 0], [(0, 2), (2, 1)]) := by kernel_rfl
theorem tb_buildT_196 : buildT Try.prog 196 = some (#[.string ByteArray.empty, .slice none 0 0, .slice none 0 0], [(0, 1), (1, 1), (2, 1)]) := by kernel_rfl
theorem tb_buildT_198 : buildT Try.prog 198 = some (#[.int .i64 0, .nilIface], [(0, 1), (1, 1)]) := by kernel_rfl
theorem tb_buildT_30 : buildT Try.prog 30 = some (#[.slice none 0 0, .int .i64 0], [(0, 1), (1, 1)]) := by kernel_rfl
theorem tb_buildT_33 : buildT Try.prog 33 = some (#[.slice none 0 0, .int .i64 0], [(0, 1), (1, 1)]) := by kernel_rfl
theorem tb_buildT_80 : buildT Try.prog 80 = some (#[.slice none 0 0, .slice none 0 0, .slice none 0 0, .slice none 0 0, .slice none 0 0, .slice none 0 0, .slice none 0 0, .slice none 0 0, .slice none 0 0, .slice none 0 0, .slice none 0 0, .slice none 0 0, .slice none 0 0, .slice none 0 0, .slice none 0 0, .slice none 0 0, .slice none 0 0, .slice none 0 0, .slice none 0 0, .slice none 0 0, .slice none 0 0, .slice none 0 0, .slice none 0 0, .slice none 0 0, .slice none 0 0, .slice none 0 0, .slice none 0 0, .slice none 0 0], [(0, 1), (1, 1), (2, 1), (3, 1), (4, 1), (5, 1), (6, 1), (7, 1), (8, 1), (9, 1), (10, 1), (11, 1), (12, 1), (13, 1), (14, 1), (15, 1), (16, 1), (17, 1), (18, 1), (19, 1), (20, 1), (21, 1), (22, 1), (23, 1), (24, 1), (25, 1), (26, 1), (27, 1)]) := by kernel_rfl
theorem tb_callable_1 : callable Try.prog 1 = false := by kernel_rfl
theorem tb_callable_10 : callable Try.prog 10 = true := by kernel_rfl
theorem tb_callable_11 : callable Try.prog 11 = true := by kernel_rfl
theorem tb_callable_12 : callable Try.prog 12 = true := by kernel_rfl
theorem tb_callable_13 : callable Try.prog 13 = true := by kernel_rfl
theorem tb_callable_14 : callable Try.prog 14 = true := by kernel_rfl
theorem tb_callable_15 : callable Try.prog 15 = true := by kernel_rfl
theorem tb_callable_16 : callable Try.prog 16 = true := by kernel_rfl
theorem tb_callable_17 : callable Try.prog 17 = true := by kernel_rfl
theorem tb_callable_18 : callable Try.prog 18 = true := by kernel_rfl
theorem tb_callable_19 : callable Try.prog 19 = true := by kernel_rfl
theorem tb_callable_2 : callable Try.prog 2 = true := by kernel_rfl
theorem tb_callable_20 : callable Try.prog 20 = true := by kernel_rfl
theorem tb_callable_21 : callable Try.prog 21 = true := by kernel_rfl
theorem tb_callable_22 : callable Try.prog 22 = true := by kernel_rfl
theorem tb_callable_23 : callable Try.prog 23 = true := by kernel_rfl
theorem tb_callable_24 : callable Try.prog 24 = true := by kernel_rfl
theorem tb_callable_25 : callable Try.prog 25 = true := by kernel_rfl
theorem tb_callable_26 : callable Try.prog 26 = true := by kernel_rfl
theorem tb_callable_27 : callable Try.prog 27 = true := by kernel_rfl
theorem tb_callable_28 : callable Try.prog 28 = true := by kernel_rfl
theorem tb_callable_29 : callable Try.prog 29 = true := by kernel_rfl
theorem tb_callable_3 : callable Try.prog 3 = true := by kernel_rfl
theorem tb_callable_30 : callable Try.prog 30 = true := by kernel_rfl
theorem tb_callable_31 : callable Try.prog 31 = true := by kernel_rfl
theorem tb_callable_32 : callable Try.prog 32 = true := by kernel_rfl
theorem tb_callable_33 : callable Try.prog 33 = true := by kernel_rfl
theorem tb_callable_34 : callable Try.prog 34 = true := by kernel_rfl
theorem tb_callable_35 : callable Try.prog 35 = true := by kernel_rfl
theorem tb_callable_36 : callable Try.prog 36 = true := by kernel_rfl
theorem tb_callable_37 : callable Try.prog 37 = true := by kernel_rfl
theorem tb_callable_38 : callable Try.prog 38 = true := by kernel_rfl
theorem tb_callable_39 : callable Try.prog 39 = true := by kernel_rfl
theorem tb_callable_4 : callable Try.prog 4 = true := by kernel_rfl
theorem tb_callable_40 : callable Try.prog 40 = true := by kernel_rfl
theorem tb_callable_41 : callable Try.prog 41 = true := by kernel_rfl
theorem tb_callable_42 : callable Try.prog 42 = true := by kernel_rfl
theorem tb_callable_43 : callable Try.prog 43 = true := by kernel_rfl
theorem tb_callable_44 : callable Try.prog 44 = true := by kernel_rfl
theorem tb_callable_45 : callable Try.prog 45 = true := by kernel_rfl
theorem tb_callable_46 : callable Try.prog 46 = true := by kernel_rfl
theorem tb_callable_47 : callable Try.prog 47 = true := by kernel_rfl
theorem tb_callable_48 : callable Try.prog 48 = true := by kernel_rfl
theorem tb_callable_49 : callable Try.prog 49 = true := by kernel_rfl
theorem tb_callable_5 : callable Try.prog 5 = true := by kernel_rfl
theorem tb_callable_50 : callable Try.prog 50 = true := by kernel_rfl
theorem tb_callable_51 : callable Try.prog 51 = true := by kernel_rfl
theorem tb_callable_52 : callable Try.prog 52 = true := by kernel_rfl
theorem tb_callable_53 : callable Try.prog 53 = true := by kernel_rfl
theorem tb_callable_54 : callable Try.prog 54 = true := by kernel_rfl
theorem tb_callable_55 : callable Try.prog 55 = true := by kernel_rfl
theorem tb_callable_56 : callable Try.prog 56 = true := by kernel_rfl
theorem tb_callable_57 : callable Try.prog 57 = true := by kernel_rfl
theorem tb_callable_58 : callable Try.prog 58 = true := by kernel_rfl
theorem tb_callable_59 : callable Try.prog 59 = true := by kernel_rfl
theorem tb_callable_6 : callable Try.prog 6 = true := by kernel_rfl
theorem tb_callable_60 : callable Try.prog 60 = true := by kernel_rfl
theorem tb_callable_61 : callable Try.prog 61 = true := by kernel_rfl
theorem tb_callable_62 : callable Try.prog 62 = true := by kernel_rfl
theorem tb_callable_63 : callable Try.prog 63 = true := by kernel_rfl
theorem tb_callable_64 : callable Try.prog 64 = true := by kernel_rfl
theorem tb_callable_65 : callable Try.prog 65 = true := by kernel_rfl
theorem tb_callable_66 : callable Try.prog 66 = true := by kernel_rfl
theorem tb_callable_67 : callable Try.prog 67 = true := by kernel_rfl
theorem tb_callable_68 : callable Try.prog 68 = true := by kernel_rfl
theorem tb_callable_69 : callable Try.prog 69 = true := by kernel_rfl
theorem tb_callable_7 : callable Try.prog 7 = true := by kernel_rfl
theorem tb_callable_70 : callable Try.prog 70 = true := by kernel_rfl
theorem tb_callable_71 : callable Try.prog 71 = true := by kernel_rfl
theorem tb_callable_72 : callable Try.prog 72 = true := by kernel_rfl
theorem tb_callable_73 : callable Try.prog 73 = true := by kernel_rfl
theorem tb_callable_74 : callable Try.prog 74 = true := by kernel_rfl
theorem tb_callable_75 : callable Try.prog 75 = true := by kernel_rfl
theorem tb_callable_76 : callable Try.prog 76 = true := by kernel_rfl
theorem tb_callable_77 : callable Try.prog 77 = true := by kernel_rfl
theorem tb_callable_78 : callable Try.prog 78 = true := by kernel_rfl
theorem tb_callable_79 : callable Try.prog 79 = true := by kernel_rfl
theorem tb_callable_8 : callable Try.prog 8 = true := by kernel_rfl
theorem tb_callable_80 : callable Try.prog 80 = true := by kernel_rfl
theorem tb_callable_81 : callable Try.prog 81 = true := by kernel_rfl
theorem tb_callable_82 : callable Try.prog 82 = true := by kernel_rfl
theorem tb_callable_83 : callable Try.prog 83 = true := by kernel_rfl
theorem tb_callable_84 : callable Try.prog 84 = true := by kernel_rfl
theorem tb_callable_85 : callable Try.prog 85 = true := by kernel_rfl
theorem tb_callable_86 : callable Try.prog 86 = true := by kernel_rfl
theorem tb_callable_87 : callable Try.prog 87 = true := by kernel_rfl
theorem tb_callable_88 : callable Try.prog 88 = true := by kernel_rfl
theorem tb_callable_9 : callable Try.prog 9 = true := by kernel_rfl
theorem tb_cellsT_101 : cellsT Try.prog 101 = some 16 := by kernel_rfl
theorem tb_cellsT_110 : cellsT Try.prog 110 = some 3 := by kernel_rfl
theorem tb_cellsT_118 : cellsT Try.prog 118 = some 1 := by kernel_rfl
theorem tb_cellsT_119 : cellsT Try.prog 119 = some 1 := by kernel_rfl
theorem tb_cellsT_120 : cellsT Try.prog 120 = some 1 := by kernel_rfl
theorem tb_cellsT_121 : cellsT Try.prog 121 = some 1 := by kernel_rfl
theorem tb_cellsT_122 : cellsT Try.prog 122 = some 1 := by kernel_rfl
theorem tb_cellsT_124 : cellsT Try.prog 124 = some 2 := by kernel_rfl
theorem tb_cellsT_125 : cellsT Try.prog 125 = some 1 := by kernel_rfl
theorem tb_cellsT_127 : cellsT Try.prog 127 = some 2 := by kernel_rfl
theorem tb_cellsT_128 : cellsT Try.prog 128 = some 1 := by kernel_rfl
theorem tb_cellsT_133 : cellsT Try.prog 133 = some 3 := by kernel_rfl
theorem tb_cellsT_134 : cellsT Try.prog 134 = some 1 := by kernel_rfl
theorem tb_cellsT_138 : cellsT Try.prog 138 = some 6 := by kernel_rfl
theorem tb_cellsT_139 : cellsT Try.prog 139 = some 1 := by kernel_rfl
theorem tb_cellsT_141 : cellsT Try.prog 141 = some 2 := by kernel_rfl
theorem tb_cellsT_142 : cellsT Try.prog 142 = some 1 := by kernel_rfl
theorem tb_cellsT_144 : cellsT Try.prog 144 = some 2 := by kernel_rfl
theorem tb_cellsT_145 : cellsT Try.prog 145 = some 1 := by kernel_rfl
theorem tb_cellsT_148 : cellsT Try.prog 148 = some 3 := by kernel_rfl
theorem tb_cellsT_149 : cellsT Try.prog 149 = some 1 := by kernel_rfl
theorem tb_cellsT_151 : cellsT Try.prog 151 = some 2 := by kernel_rfl
theorem tb_cellsT_152 : cellsT Try.prog 152 = some 1 := by kernel_rfl
theorem tb_cellsT_154 : cellsT Try.prog 154 = some 3 := by kernel_rfl
theorem tb_cellsT_155 : cellsT Try.prog 155 = some 1 := by kernel_rfl
theorem tb_cellsT_158 : cellsT Try.prog 158 = some 4 := by kernel_rfl
theorem tb_cellsT_159 : cellsT Try.prog 159 = some 1 := by kernel_rfl
theorem tb_cellsT_163 : cellsT Try.prog 163 = some 4 := by kernel_rfl
theorem tb_cellsT_164 : cellsT Try.prog 164 = some 1 := by kernel_rfl
theorem tb_cellsT_166 : cellsT Try.prog 166 = some 2 := by kernel_rfl
theorem tb_cellsT_167 : cellsT Try.prog 167 = some 1 := by kernel_rfl
theorem tb_cellsT_169 : cellsT Try.prog 169 = some 4 := by kernel_rfl
theorem tb_cellsT_170 : cellsT Try.prog 170 = some 1 := by kernel_rfl
theorem tb_cellsT_172 : cellsT Try.prog 172 = some 3 := by kernel_rfl
theorem tb_cellsT_174 : cellsT Try.prog 174 = some 6 := by kernel_rfl
theorem tb_cellsT_175 : cellsT Try.prog 175 = some 1 := by kernel_rfl
theorem tb_cellsT_177 : cellsT Try.prog 177 = some 10 := by kernel_rfl
theorem tb_cellsT_178 : cellsT Try.prog 178 = some 1 := by kernel_rfl
theorem tb_cellsT_179 : cellsT Try.prog 179 = some 1 := by kernel_rfl
theorem tb_cellsT_181 : cellsT Try.prog 181 = some 4 := by kernel_rfl
theorem tb_cellsT_182 : cellsT Try.prog 182 = some 1 := by kernel_rfl
theorem tb_cellsT_184 : cellsT Try.prog 184 = some 3 := by kernel_rfl
theorem tb_cellsT_185 : cellsT Try.prog 185 = some 1 := by kernel_rfl
theorem tb_cellsT_187 : cellsT Try.prog 187 = some 2 := by kernel_rfl
theorem tb_cellsT_188 : cellsT Try.prog 188 = some 1 := by kernel_rfl
theorem tb_cellsT_190 : cellsT Try.prog 190 = some 2 := by kernel_rfl
theorem tb_cellsT_191 : cellsT Try.prog 191 = some 1 := by kernel_rfl
theorem tb_cellsT_193 : cellsT Try.prog 193 = some 3 := by kernel_rfl
theorem tb_cellsT_194 : cellsT Try.prog 194 = some 1 := by kernel_rfl
theorem tb_cellsT_196 : cellsT Try.prog 196 = some 3 := by kernel_rfl
theorem tb_cellsT_2 : cellsT Try.prog 2 = some 1 := by kernel_rfl
theorem tb_cellsT_22 : cellsT Try.prog 22 = some 1 := by kernel_rfl
theorem tb_cellsT_24 : cellsT Try.prog 24 = some 1 := by kernel_rfl
theorem tb_cellsT_3 : cellsT Try.prog 3 = some 1 := by kernel_rfl
theorem tb_cellsT_34 : cellsT Try.prog 34 = some 1 := by kernel_rfl
theorem tb_cellsT_36 : cellsT Try.prog 36 = some 4 := by kernel_rfl
theorem tb_cellsT_45 : cellsT Try.prog 45 = some 1 := by kernel_rfl
theorem tb_cellsT_5 : cellsT Try.prog 5 = some 1 := by kernel_rfl
theorem tb_cellsT_51 : cellsT Try.prog 51 = some 1 := by kernel_rfl
theorem tb_cellsT_52 : cellsT Try.prog 52 = some 1 := by kernel_rfl
theorem tb_cellsT_53 : cellsT Try.prog 53 = some 1 := by kernel_rfl
theorem tb_cellsT_54 : cellsT Try.prog 54 = some 1 := by kernel_rfl
theorem tb_cellsT_55 : cellsT Try.prog 55 = some 1 := by kernel_rfl
theorem tb_cellsT_56 : cellsT Try.prog 56 = some 1 := by kernel_rfl
theorem tb_cellsT_57 : cellsT Try.prog 57 = some 1 := by kernel_rfl
theorem tb_cellsT_58 : cellsT Try.prog 58 = some 1 := by kernel_rfl
theorem tb_cellsT_59 : cellsT Try.prog 59 = some 1 := by kernel_rfl
theorem tb_cellsT_60 : cellsT Try.prog 60 = some 1 := by kernel_rfl
theorem tb_cellsT_61 : cellsT Try.prog 61 = some 1 := by kernel_rfl
theorem tb_cellsT_62 : cellsT Try.prog 62 = some 1 := by kernel_rfl
theorem tb_cellsT_63 : cellsT Try.prog 63 = some 1 := by kernel_rfl
theorem tb_cellsT_64 : cellsT Try.prog 64 = some 1 := by kernel_rfl
theorem tb_cellsT_65 : cellsT Try.prog 65 = some 1 := by kernel_rfl
theorem tb_cellsT_66 : cellsT Try.prog 66 = some 1 := by kernel_rfl
theorem tb_cellsT_67 : cellsT Try.prog 67 = some 1 := by kernel_rfl
theorem tb_cellsT_68 : cellsT Try.prog 68 = some 1 := by kernel_rfl
theorem tb_cellsT_69 : cellsT Try.prog 69 = some 1 := by kernel_rfl
theorem tb_cellsT_70 : cellsT Try.prog 70 = some 1 := by kernel_rfl
theorem tb_cellsT_71 : cellsT Try.prog 71 = some 1 := by kernel_rfl
theorem tb_cellsT_72 : cellsT Try.prog 72 = some 1 := by kernel_rfl
theorem tb_cellsT_73 : cellsT Try.prog 73 = some 1 := by kernel_rfl
theorem tb_cellsT_74 : cellsT Try.prog 74 = some 1 := by kernel_rfl
theorem tb_cellsT_75 : cellsT Try.prog 75 = some 1 := by kernel_rfl
theorem tb_cellsT_76 : cellsT Try.prog 76 = some 1 := by kernel_rfl
theorem tb_cellsT_77 : cellsT Try.prog 77 = some 1 := by kernel_rfl
theorem tb_cellsT_78 : cellsT Try.prog 78 = some 1 := by kernel_rfl
theorem tb_cellsT_80 : cellsT Try.prog 80 = some 28 := by kernel_rfl
theorem tb_cellsT_9 : cellsT Try.prog 9 = some 1 := by kernel_rfl
theorem tb_convT_22_22 : convT Try.prog 22 22 = .other := by kernel_rfl
theorem tb_convT_22_9 : convT Try.prog 22 9 = .strStr := by kernel_rfl
theorem tb_convT_24_3 : convT Try.prog 24 3 = .toInt .i64 := by kernel_rfl
theorem tb_convT_24_34 : convT Try.prog 24 34 = .toInt .u64 := by kernel_rfl
theorem tb_convT_24_5 : convT Try.prog 24 5 = .toInt .u8 := by kernel_rfl
theorem tb_convT_2_34 : convT Try.prog 2 34 = .toInt .u64 := by kernel_rfl
theorem tb_convT_34_2 : convT Try.prog 34 2 = .toInt .i64 := by kernel_rfl
theorem tb_convT_34_24 : convT Try.prog 34 24 = .toInt .u32 := by kernel_rfl
theorem tb_convT_34_3 : convT Try.prog 34 3 = .toInt .i64 := by kernel_rfl
theorem tb_convT_34_5 : convT Try.prog 34 5 = .toInt .u8 := by kernel_rfl
theorem tb_convT_3_24 : convT Try.prog 3 24 = .toInt .u32 := by kernel_rfl
theorem tb_convT_3_34 : convT Try.prog 3 34 = .toInt .u64 := by kernel_rfl
theorem tb_convT_3_5 : convT Try.prog 3 5 = .toInt .u8 := by kernel_rfl
theorem tb_convT_5_24 : convT Try.prog 5 24 = .toInt .u32 := by kernel_rfl
theorem tb_convT_5_34 : convT Try.prog 5 34 = .toInt .u64 := by kernel_rfl
theorem tb_convT_9_22 : convT Try.prog 9 22 = .other := by kernel_rfl
theorem tb_eqT_124 : eqT Try.prog 124 = .struct := by kernel_rfl
theorem tb_eqT_127 : eqT Try.prog 127 = .struct := by kernel_rfl
theorem tb_eqT_133 : eqT Try.prog 133 = .struct := by kernel_rfl
theorem tb_eqT_138 : eqT Try.prog 138 = .struct := by kernel_rfl
theorem tb_eqT_141 : eqT Try.prog 141 = .struct := by kernel_rfl
theorem tb_eqT_144 : eqT Try.prog 144 = .struct := by kernel_rfl
theorem tb_eqT_148 : eqT Try.prog 148 = .struct := by kernel_rfl
theorem tb_eqT_151 : eqT Try.prog 151 = .struct := by kernel_rfl
theorem tb_eqT_154 : eqT Try.prog 154 = .struct := by kernel_rfl
theorem tb_eqT_158 : eqT Try.prog 158 = .struct := by kernel_rfl
theorem tb_eqT_163 : eqT Try.prog 163 = .struct := by kernel_rfl
theorem tb_eqT_166 : eqT Try.prog 166 = .struct := by kernel_rfl
theorem tb_eqT_199 : eqT Try.prog 199 = .ptr := by kernel_rfl
theorem tb_eqT_22 : eqT Try.prog 22 = .sl := by kernel_rfl
theorem tb_eqT_28 : eqT Try.prog 28 = .ptr := by kernel_rfl
theorem tb_eqT_4 : eqT Try.prog 4 = .bool := by kernel_rfl
theorem tb_eqT_45 : eqT Try.prog 45 = .iface := by kernel_rfl
theorem tb_eqT_82 : eqT Try.prog 82 = .ptr := by kernel_rfl
theorem tb_fieldOff_110_0 : fieldOff Try.prog 110 0 = some 0 := by kernel_rfl
theorem tb_fieldOff_110_1 : fieldOff Try.prog 110 1 = some 1 := by kernel_rfl
theorem tb_fieldOff_110_2 : fieldOff Try.prog 110 2 = some 2 := by kernel_rfl
theorem tb_fieldOff_112_0 : fieldOff Try.prog 112 0 = some 0 := by kernel_rfl
theorem tb_fieldOff_112_1 : fieldOff Try.prog 112 1 = some 3 := by kernel_rfl
theorem tb_fieldOff_133_0 : fieldOff Try.prog 133 0 = some 0 := by kernel_rfl
theorem tb_fieldOff_169_0 : fieldOff Try.prog 169 0 = some 0 := by kernel_rfl
theorem tb_fieldOff_172_0 : fieldOff Try.prog 172 0 = some 0 := by kernel_rfl
theorem tb_fieldOff_174_1 : fieldOff Try.prog 174 1 = some 3 := by kernel_rfl
theorem tb_fieldOff_177_1 : fieldOff Try.prog 177 1 = some 3 := by kernel_rfl
theorem tb_fieldOff_181_2 : fieldOff Try.prog 181 2 = some 3 := by kernel_rfl
theorem tb_fieldOff_184_0 : fieldOff Try.prog 184 0 = some 0 := by kernel_rfl
theorem tb_fieldOff_187_0 : fieldOff Try.prog 187 0 = some 0 := by kernel_rfl
theorem tb_fieldOff_190_0 : fieldOff Try.prog 190 0 = some 0 := by kernel_rfl
theorem tb_fieldOff_193_0 : fieldOff Try.prog 193 0 = some 0 := by kernel_rfl
theorem tb_fieldOff_196_0 : fieldOff Try.prog 196 0 = some 0 := by kernel_rfl
theorem tb_fieldOff_30_0 : fieldOff Try.prog 30 0 = some 0 := by kernel_rfl
theorem tb_fieldOff_30_1 : fieldOff Try.prog 30 1 = some 1 := by kernel_rfl
theorem tb_fieldOff_33_0 : fieldOff Try.prog 33 0 = some 0 := by kernel_rfl
theorem tb_fieldOff_33_1 : fieldOff Try.prog 33 1 = some 1 := by kernel_rfl
theorem tb_fieldOff_36_0 : fieldOff Try.prog 36 0 = some 0 := by kernel_rfl
theorem tb_fieldOff_36_1 : fieldOff Try.prog 36 1 = some 1 := by kernel_rfl
theorem tb_fieldOff_36_2 : fieldOff Try.prog 36 2 = some 2 := by kernel_rfl
theorem tb_fieldOff_36_3 : fieldOff Try.prog 36 3 = some 3 := by kernel_rfl
theorem tb_fieldOff_43_0 : fieldOff Try.prog 43 0 = some 0 := by kernel_rfl
theorem tb_fieldOff_43_1 : fieldOff Try.prog 43 1 = some 1 := by kernel_rfl
theorem tb_fieldOff_43_2 : fieldOff Try.prog 43 2 = some 2 := by kernel_rfl
theorem tb_fieldOff_80_0 : fieldOff Try.prog 80 0 = some 0 := by kernel_rfl
theorem tb_fieldOff_80_1 : fieldOff Try.prog 80 1 = some 1 := by kernel_rfl
theorem tb_fieldOff_80_10 : fieldOff Try.prog 80 10 = some 10 := by kernel_rfl
theorem tb_fieldOff_80_11 : fieldOff Try.prog 80 11 = some 11 := by kernel_rfl
theorem tb_fieldOff_80_12 : fieldOff Try.prog 80 12 = some 12 := by kernel_rfl
theorem tb_fieldOff_80_13 : fieldOff Try.prog 80 13 = some 13 := by kernel_rfl
theorem tb_fieldOff_80_14 : fieldOff Try.prog 80 14 = some 14 := by kernel_rfl
theorem tb_fieldOff_80_15 : fieldOff Try.prog 80 15 = some 15 := by kernel_rfl
theorem tb_fieldOff_80_16 : fieldOff Try.prog 80 16 = some 16 := by kernel_rfl
theorem tb_fieldOff_80_17 : fieldOff Try.prog 80 17 = some 17 := by kernel_rfl
theorem tb_fieldOff_80_18 : fieldOff Try.prog 80 18 = some 18 := by kernel_rfl
theorem tb_fieldOff_80_19 : fieldOff Try.prog 80 19 = some 19 := by kernel_rfl
theorem tb_fieldOff_80_2 : fieldOff Try.prog 80 2 = some 2 := by kernel_rfl
theorem tb_fieldOff_80_20 : fieldOff Try.prog 80 20 = some 20 := by kernel_rfl
theorem tb_fieldOff_80_21 : fieldOff Try.prog 80 21 = some 21 := by kernel_rfl
theorem tb_fieldOff_80_22 : fieldOff Try.prog 80 22 = some 22 := by kernel_rfl
theorem tb_fieldOff_80_23 : fieldOff Try.prog 80 23 = some 23 := by kernel_rfl
theorem tb_fieldOff_80_24 : fieldOff Try.prog 80 24 = some 24 := by kernel_rfl
theorem tb_fieldOff_80_25 : fieldOff Try.prog 80 25 = some 25 := by kernel_rfl
theorem tb_fieldOff_80_26 : fieldOff Try.prog 80 26 = some 26 := by kernel_rfl
theorem tb_fieldOff_80_27 : fieldOff Try.prog 80 27 = some 27 := by kernel_rfl
theorem tb_fieldOff_80_3 : fieldOff Try.prog 80 3 = some 3 := by kernel_rfl
theorem tb_fieldOff_80_4 : fieldOff Try.prog 80 4 = some 4 := by kernel_rfl
theorem tb_fieldOff_80_5 : fieldOff Try.prog 80 5 = some 5 := by kernel_rfl
theorem tb_fieldOff_80_6 : fieldOff Try.prog 80 6 = some 6 := by kernel_rfl
theorem tb_fieldOff_80_7 : fieldOff Try.prog 80 7 = some 7 := by kernel_rfl
theorem tb_fieldOff_80_8 : fieldOff Try.prog 80 8 = some 8 := by kernel_rfl
theorem tb_fieldOff_80_9 : fieldOff Try.prog 80 9 = some 9 := by kernel_rfl
theorem tb_ifaceT_105 : ifaceT Try.prog 105 = some false := by kernel_rfl
theorem tb_ifaceT_198 : ifaceT Try.prog 198 = some false := by kernel_rfl
theorem tb_indexT_101 : indexT Try.prog 101 = some (.arr 16 1 false) := by kernel_rfl
theorem tb_indexT_118 : indexT Try.prog 118 = some (.sl 1) := by kernel_rfl
theorem tb_indexT_119 : indexT Try.prog 119 = some (.sl 1) := by kernel_rfl
theorem tb_indexT_120 : indexT Try.prog 120 = some (.sl 1) := by kernel_rfl
theorem tb_indexT_121 : indexT Try.prog 121 = some (.sl 1) := by kernel_rfl
theorem tb_indexT_122 : indexT Try.prog 122 = some (.sl 2) := by kernel_rfl
theorem tb_indexT_125 : indexT Try.prog 125 = some (.sl 2) := by kernel_rfl
theorem tb_indexT_128 : indexT Try.prog 128 = some (.sl 3) := by kernel_rfl
theorem tb_indexT_134 : indexT Try.prog 134 = some (.sl 6) := by kernel_rfl
theorem tb_indexT_139 : indexT Try.prog 139 = some (.sl 2) := by kernel_rfl
theorem tb_indexT_142 : indexT Try.prog 142 = some (.sl 2) := by kernel_rfl
theorem tb_indexT_145 : indexT Try.prog 145 = some (.sl 3) := by kernel_rfl
theorem tb_indexT_149 : indexT Try.prog 149 = some (.sl 2) := by kernel_rfl
theorem tb_indexT_152 : indexT Try.prog 152 = some (.sl 3) := by kernel_rfl
theorem tb_indexT_155 : indexT Try.prog 155 = some (.sl 4) := by kernel_rfl
theorem tb_indexT_159 : indexT Try.prog 159 = some (.sl 4) := by kernel_rfl
theorem tb_indexT_164 : indexT Try.prog 164 = some (.sl 2) := by kernel_rfl
theorem tb_indexT_167 : indexT Try.prog 167 = some (.sl 4) := by kernel_rfl
theorem tb_indexT_170 : indexT Try.prog 170 = some (.sl 6) := by kernel_rfl
theorem tb_indexT_175 : indexT Try.prog 175 = some (.sl 10) := by kernel_rfl
theorem tb_indexT_178 : indexT Try.prog 178 = some (.sl 3) := by kernel_rfl
theorem tb_indexT_179 : indexT Try.prog 179 = some (.sl 4) := by kernel_rfl
theorem tb_indexT_182 : indexT Try.prog 182 = some (.sl 3) := by kernel_rfl
theorem tb_indexT_185 : indexT Try.prog 185 = some (.sl 2) := by kernel_rfl
theorem tb_indexT_188 : indexT Try.prog 188 = some (.sl 2) := by kernel_rfl
theorem tb_indexT_191 : indexT Try.prog 191 = some (.sl 3) := by kernel_rfl
theorem tb_indexT_194 : indexT Try.prog 194 = some (.sl 3) := by kernel_rfl
theorem tb_indexT_22 : indexT Try.prog 22 = some (.sl 1) := by kernel_rfl
theorem tb_indexT_27 : indexT Try.prog 27 = some (.sl 4) := by kernel_rfl
theorem tb_indexT_51 : indexT Try.prog 51 = some (.sl 1) := by kernel_rfl
theorem tb_indexT_52 : indexT Try.prog 52 = some (.sl 1) := by kernel_rfl
theorem tb_indexT_53 : indexT Try.prog 53 = some (.sl 1) := by kernel_rfl
theorem tb_indexT_54 : indexT Try.prog 54 = some (.sl 1) := by kernel_rfl
theorem tb_indexT_55 : indexT Try.prog 55 = some (.sl 1) := by kernel_rfl
theorem tb_indexT_56 : indexT Try.prog 56 = some (.sl 1) := by kernel_rfl
theorem tb_indexT_57 : indexT Try.prog 57 = some (.sl 1) := by kernel_rfl
theorem tb_indexT_58 : indexT Try.prog 58 = some (.sl 1) := by kernel_rfl
theorem tb_indexT_59 : indexT Try.prog 59 = some (.sl 1) := by kernel_rfl
theorem tb_indexT_60 : indexT Try.prog 60 = some (.sl 1) := by kernel_rfl
theorem tb_indexT_61 : indexT Try.prog 61 = some (.sl 1) := by kernel_rfl
theorem tb_indexT_62 : indexT Try.prog 62 = some (.sl 1) := by kernel_rfl
theorem tb_indexT_63 : indexT Try.prog 63 = some (.sl 1) := by kernel_rfl
theorem tb_indexT_64 : indexT Try.prog 64 = some (.sl 1) := by kernel_rfl
theorem tb_indexT_65 : indexT Try.prog 65 = some (.sl 1) := by kernel_rfl
theorem tb_indexT_66 : indexT Try.prog 66 = some (.sl 1) := by kernel_rfl
theorem tb_indexT_67 : indexT Try.prog 67 = some (.sl 1) := by kernel_rfl
theorem tb_indexT_68 : indexT Try.prog 68 = some (.sl 1) := by kernel_rfl
theorem tb_indexT_69 : indexT Try.prog 69 = some (.sl 1) := by kernel_rfl
theorem tb_indexT_70 : indexT Try.prog 70 = some (.sl 1) := by kernel_rfl
theorem tb_indexT_71 : indexT Try.prog 71 = some (.sl 1) := by kernel_rfl
theorem tb_indexT_72 : indexT Try.prog 72 = some (.sl 1) := by kernel_rfl
theorem tb_indexT_73 : indexT Try.prog 73 = some (.sl 1) := by kernel_rfl
theorem tb_indexT_74 : indexT Try.prog 74 = some (.sl 1) := by kernel_rfl
theorem tb_indexT_75 : indexT Try.prog 75 = some (.sl 1) := by kernel_rfl
theorem tb_indexT_76 : indexT Try.prog 76 = some (.sl 1) := by kernel_rfl
theorem tb_indexT_77 : indexT Try.prog 77 = some (.sl 1) := by kernel_rfl
theorem tb_indexT_78 : indexT Try.prog 78 = some (.sl 1) := by kernel_rfl
theorem tb_isAggT_101 : isAggT Try.prog 101 = some true := by kernel_rfl
theorem tb_isAggT_110 : isAggT Try.prog 110 = some true := by kernel_rfl
theorem tb_isAggT_118 : isAggT Try.prog 118 = some false := by kernel_rfl
theorem tb_isAggT_119 : isAggT Try.prog 119 = some false := by kernel_rfl
theorem tb_isAggT_120 : isAggT Try.prog 120 = some false := by kernel_rfl
theorem tb_isAggT_121 : isAggT Try.prog 121 = some false := by kernel_rfl
theorem tb_isAggT_122 : isAggT Try.prog 122 = some false := by kernel_rfl
theorem tb_isAggT_124 : isAggT Try.prog 124 = some true := by kernel_rfl
theorem tb_isAggT_125 : isAggT Try.prog 125 = some false := by kernel_rfl
theorem tb_isAggT_127 : isAggT Try.prog 127 = some true := by kernel_rfl
theorem tb_isAggT_128 : isAggT Try.prog 128 = some false := by kernel_rfl
theorem tb_isAggT_133 : isAggT Try.prog 133 = some true := by kernel_rfl
theorem tb_isAggT_134 : isAggT Try.prog 134 = some false := by kernel_rfl
theorem tb_isAggT_138 : isAggT Try.prog 138 = some true := by kernel_rfl
theorem tb_isAggT_139 : isAggT Try.prog 139 = some false := by kernel_rfl
theorem tb_isAggT_141 : isAggT Try.prog 141 = some true := by kernel_rfl
theorem tb_isAggT_142 : isAggT Try.prog 142 = some false := by kernel_rfl
theorem tb_isAggT_144 : isAggT Try.prog 144 = some true := by kernel_rfl
theorem tb_isAggT_145 : isAggT Try.prog 145 = some false := by kernel_rfl
theorem tb_isAggT_148 : isAggT Try.prog 148 = some true := by kernel_rfl
theorem tb_isAggT_149 : isAggT Try.prog 149 = some false := by kernel_rfl
theorem tb_isAggT_151 : isAggT Try.prog 151 = some true := by kernel_rfl
theorem tb_isAggT_152 : isAggT Try.prog 152 = some false := by kernel_rfl
theorem tb_isAggT_154 : isAggT Try.prog 154 = some true := by kernel_rfl
theorem tb_isAggT_155 : isAggT Try.prog 155 = some false := by kernel_rfl
theorem tb_isAggT_158 : isAggT Try.prog 158 = some true := by kernel_rfl
theorem tb_isAggT_159 : isAggT Try.prog 159 = some false := by kernel_rfl
theorem tb_isAggT_163 : isAggT Try.prog 163 = some true := by kernel_rfl
theorem tb_isAggT_164 : isAggT Try.prog 164 = some false := by kernel_rfl
theorem tb_isAggT_166 : isAggT Try.prog 166 = some true := by kernel_rfl
theorem tb_isAggT_167 : isAggT Try.prog 167 = some false := by kernel_rfl
theorem tb_isAggT_169 : isAggT Try.prog 169 = some true := by kernel_rfl
theorem tb_isAggT_170 : isAggT Try.prog 170 = some false := by kernel_rfl
theorem tb_isAggT_172 : isAggT Try.prog 172 = some true := by kernel_rfl
theorem tb_isAggT_174 : isAggT Try.prog 174 = some true := by kernel_rfl
theorem tb_isAggT_175 : isAggT Try.prog 175 = some false := by kernel_rfl
theorem tb_isAggT_177 : isAggT Try.prog 177 = some true := by kernel_rfl
theorem tb_isAggT_178 : isAggT Try.prog 178 = some false := by kernel_rfl
theorem tb_isAggT_179 : isAggT Try.prog 179 = some false := by kernel_rfl
theorem tb_isAggT_181 : isAggT Try.prog 181 = some true := by kernel_rfl
theorem tb_isAggT_182 : isAggT Try.prog 182 = some false := by kernel_rfl
theorem tb_isAggT_184 : isAggT Try.prog 184 = some true := by kernel_rfl
theorem tb_isAggT_185 : isAggT Try.prog 185 = some false := by kernel_rfl
theorem tb_isAggT_187 : isAggT Try.prog 187 = some true := by kernel_rfl
theorem tb_isAggT_188 : isAggT Try.prog 188 = some false := by kernel_rfl
theorem tb_isAggT_190 : isAggT Try.prog 190 = some true := by kernel_rfl
theorem tb_isAggT_191 : isAggT Try.prog 191 = some false := by kernel_rfl
theorem tb_isAggT_193 : isAggT Try.prog 193 = some true := by kernel_rfl
theorem tb_isAggT_194 : isAggT Try.prog 194 = some false := by kernel_rfl
theorem tb_isAggT_196 : isAggT Try.prog 196 = some true := by kernel_rfl
theorem tb_isAggT_2 : isAggT Try.prog 2 = some false := by kernel_rfl
theorem tb_isAggT_22 : isAggT Try.prog 22 = some false := by kernel_rfl
theorem tb_isAggT_24 : isAggT Try.prog 24 = some false := by kernel_rfl
theorem tb_isAggT_3 : isAggT Try.prog 3 = some false := by kernel_rfl
theorem tb_isAggT_34 : isAggT Try.prog 34 = some false := by kernel_rfl
theorem tb_isAggT_36 : isAggT Try.prog 36 = some true := by kernel_rfl
theorem tb_isAggT_45 : isAggT Try.prog 45 = some false := by kernel_rfl
theorem tb_isAggT_5 : isAggT Try.prog 5 = some false := by kernel_rfl
theorem tb_isAggT_51 : isAggT Try.prog 51 = some false := by kernel_rfl
theorem tb_isAggT_52 : isAggT Try.prog 52 = some false := by kernel_rfl
theorem tb_isAggT_53 : isAggT Try.prog 53 = some false := by kernel_rfl
theorem tb_isAggT_54 : isAggT Try.prog 54 = some false := by kernel_rfl
theorem tb_isAggT_55 : isAggT Try.prog 55 = some false := by kernel_rfl
theorem tb_isAggT_56 : isAggT Try.prog 56 = some false := by kernel_rfl
theorem tb_isAggT_57 : isAggT Try.prog 57 = some false := by kernel_rfl
theorem tb_isAggT_58 : isAggT Try.prog 58 = some false := by kernel_rfl
theorem tb_isAggT_59 : isAggT Try.prog 59 = some false := by kernel_rfl
theorem tb_isAggT_60 : isAggT Try.prog 60 = some false := by kernel_rfl
theorem tb_isAggT_61 : isAggT Try.prog 61 = some false := by kernel_rfl
theorem tb_isAggT_62 : isAggT Try.prog 62 = some false := by kernel_rfl
theorem tb_isAggT_63 : isAggT Try.prog 63 = some false := by kernel_rfl
theorem tb_isAggT_64 : isAggT Try.prog 64 = some false := by kernel_rfl
theorem tb_isAggT_65 : isAggT Try.prog 65 = some false := by kernel_rfl
theorem tb_isAggT_66 : isAggT Try.prog 66 = some false := by kernel_rfl
theorem tb_isAggT_67 : isAggT Try.prog 67 = some false := by kernel_rfl
theorem tb_isAggT_68 : isAggT Try.prog 68 = some false := by kernel_rfl
theorem tb_isAggT_69 : isAggT Try.prog 69 = some false := by kernel_rfl
theorem tb_isAggT_70 : isAggT Try.prog 70 = some false := by kernel_rfl
theorem tb_isAggT_71 : isAggT Try.prog 71 = some false := by kernel_rfl
theorem tb_isAggT_72 : isAggT Try.prog 72 = some false := by kernel_rfl
theorem tb_isAggT_73 : isAggT Try.prog 73 = some false := by kernel_rfl
theorem tb_isAggT_74 : isAggT Try.prog 74 = some false := by kernel_rfl
theorem tb_isAggT_75 : isAggT Try.prog 75 = some false := by kernel_rfl
theorem tb_isAggT_76 : isAggT Try.prog 76 = some false := by kernel_rfl
theorem tb_isAggT_77 : isAggT Try.prog 77 = some false := by kernel_rfl
theorem tb_isAggT_78 : isAggT Try.prog 78 = some false := by kernel_rfl
theorem tb_isAggT_80 : isAggT Try.prog 80 = some true := by kernel_rfl
theorem tb_isAggT_9 : isAggT Try.prog 9 = some false := by kernel_rfl
theorem tb_lenT_118 : lenT Try.prog 118 = .sl := by kernel_rfl
theorem tb_lenT_119 : lenT Try.prog 119 = .sl := by kernel_rfl
theorem tb_lenT_120 : lenT Try.prog 120 = .sl := by kernel_rfl
theorem tb_lenT_121 : lenT Try.prog 121 = .sl := by kernel_rfl
theorem tb_lenT_122 : lenT Try.prog 122 = .sl := by kernel_rfl
theorem tb_lenT_125 : lenT Try.prog 125 = .sl := by kernel_rfl
theorem tb_lenT_128 : lenT Try.prog 128 = .sl := by kernel_rfl
theorem tb_lenT_134 : lenT Try.prog 134 = .sl := by kernel_rfl
theorem tb_lenT_139 : lenT Try.prog 139 = .sl := by kernel_rfl
theorem tb_lenT_142 : lenT Try.prog 142 = .sl := by kernel_rfl
theorem tb_lenT_145 : lenT Try.prog 145 = .sl := by kernel_rfl
theorem tb_lenT_149 : lenT Try.prog 149 = .sl := by kernel_rfl
theorem tb_lenT_152 : lenT Try.prog 152 = .sl := by kernel_rfl
theorem tb_lenT_155 : lenT Try.prog 155 = .sl := by kernel_rfl
theorem tb_lenT_159 : lenT Try.prog 159 = .sl := by kernel_rfl
theorem tb_lenT_164 : lenT Try.prog 164 = .sl := by kernel_rfl
theorem tb_lenT_167 : lenT Try.prog 167 = .sl := by kernel_rfl
theorem tb_lenT_170 : lenT Try.prog 170 = .sl := by kernel_rfl
theorem tb_lenT_175 : lenT Try.prog 175 = .sl := by kernel_rfl
theorem tb_lenT_178 : lenT Try.prog 178 = .sl := by kernel_rfl
theorem tb_lenT_179 : lenT Try.prog 179 = .sl := by kernel_rfl
theorem tb_lenT_182 : lenT Try.prog 182 = .sl := by kernel_rfl
theorem tb_lenT_185 : lenT Try.prog 185 = .sl := by kernel_rfl
theorem tb_lenT_188 : lenT Try.prog 188 = .sl := by kernel_rfl
theorem tb_lenT_191 : lenT Try.prog 191 = .sl := by kernel_rfl
theorem tb_lenT_194 : lenT Try.prog 194 = .sl := by kernel_rfl
theorem tb_lenT_22 : lenT Try.prog 22 = .sl := by kernel_rfl
theorem tb_lenT_27 : lenT Try.prog 27 = .sl := by kernel_rfl
theorem tb_lenT_51 : lenT Try.prog 51 = .sl := by kernel_rfl
theorem tb_lenT_52 : lenT Try.prog 52 = .sl := by kernel_rfl
theorem tb_lenT_53 : lenT Try.prog 53 = .sl := by kernel_rfl
theorem tb_lenT_54 : lenT Try.prog 54 = .sl := by kernel_rfl
theorem tb_lenT_55 : lenT Try.prog 55 = .sl := by kernel_rfl
theorem tb_lenT_56 : lenT Try.prog 56 = .sl := by kernel_rfl
theorem tb_lenT_57 : lenT Try.prog 57 = .sl := by kernel_rfl
theorem tb_lenT_58 : lenT Try.prog 58 = .sl := by kernel_rfl
theorem tb_lenT_59 : lenT Try.prog 59 = .sl := by kernel_rfl
theorem tb_lenT_60 : lenT Try.prog 60 = .sl := by kernel_rfl
theorem tb_lenT_61 : lenT Try.prog 61 = .sl := by kernel_rfl
theorem tb_lenT_62 : lenT Try.prog 62 = .sl := by kernel_rfl
theorem tb_lenT_63 : lenT Try.prog 63 = .sl := by kernel_rfl
theorem tb_lenT_64 : lenT Try.prog 64 = .sl := by kernel_rfl
theorem tb_lenT_65 : lenT Try.prog 65 = .sl := by kernel_rfl
theorem tb_lenT_66 : lenT Try.prog 66 = .sl := by kernel_rfl
theorem tb_lenT_67 : lenT Try.prog 67 = .sl := by kernel_rfl
theorem tb_lenT_68 : lenT Try.prog 68 = .sl := by kernel_rfl
theorem tb_lenT_69 : lenT Try.prog 69 = .sl := by kernel_rfl
theorem tb_lenT_70 : lenT Try.prog 70 = .sl := by kernel_rfl
theorem tb_lenT_71 : lenT Try.prog 71 = .sl := by kernel_rfl
theorem tb_lenT_72 : lenT Try.prog 72 = .sl := by kernel_rfl
theorem tb_lenT_73 : lenT Try.prog 73 = .sl := by kernel_rfl
theorem tb_lenT_74 : lenT Try.prog 74 = .sl := by kernel_rfl
theorem tb_lenT_75 : lenT Try.prog 75 = .sl := by kernel_rfl
theorem tb_lenT_76 : lenT Try.prog 76 = .sl := by kernel_rfl
theorem tb_lenT_77 : lenT Try.prog 77 = .sl := by kernel_rfl
theorem tb_lenT_78 : lenT Try.prog 78 = .sl := by kernel_rfl
theorem tb_res_10 : Try.f10.results.toList = [.tmp 2] := by kernel_rfl
theorem tb_res_11 : Try.f11.results.toList = [.tmp 2] := by kernel_rfl
theorem tb_res_12 : Try.f12.results.toList = [] := by kernel_rfl
theorem tb_res_13 : Try.f13.results.toList = [.tmp 2] := by kernel_rfl
theorem tb_res_14 : Try.f14.results.toList = [.tmp 4] := by kernel_rfl
theorem tb_res_15 : Try.f15.results.toList = [.tmp 2] := by kernel_rfl
theorem tb_res_16 : Try.f16.results.toList = [.tmp 6, .tmp 7] := by kernel_rfl
theorem tb_res_17 : Try.f17.results.toList = [.tmp 2, .tmp 3, .tmp 4, .tmp 5, .tmp 6] := by kernel_rfl
theorem tb_res_18 : Try.f18.results.toList = [] := by kernel_rfl
theorem tb_res_19 : Try.f19.results.toList = [.tmp 2] := by kernel_rfl
theorem tb_res_2 : Try.f2.results.toList = [] := by kernel_rfl
theorem tb_res_20 : Try.f20.results.toList = [.tmp 4] := by kernel_rfl
theorem tb_res_21 : Try.f21.results.toList = [.tmp 2] := by kernel_rfl
theorem tb_res_22 : Try.f22.results.toList = [.tmp 2] := by kernel_rfl
theorem tb_res_23 : Try.f23.results.toList = [.tmp 2] := by kernel_rfl
theorem tb_res_24 : Try.f24.results.toList = [.tmp 4] := by kernel_rfl
theorem tb_res_25 : Try.f25.results.toList = [.tmp 2] := by kernel_rfl
theorem tb_res_26 : Try.f26.results.toList = [.tmp 4] := by kernel_rfl
theorem tb_res_27 : Try.f27.results.toList = [.tmp 4] := by kernel_rfl
theorem tb_res_28 : Try.f28.results.toList = [.tmp 4] := by kernel_rfl
theorem tb_res_29 : Try.f29.results.toList = [.tmp 2] := by kernel_rfl
theorem tb_res_3 : Try.f3.results.toList = [.tmp 2] := by kernel_rfl
theorem tb_res_30 : Try.f30.results.toList = [] := by kernel_rfl
theorem tb_res_31 : Try.f31.results.toList = [] := by kernel_rfl
theorem tb_res_32 : Try.f32.results.toList = [] := by kernel_rfl
theorem tb_res_33 : Try.f33.results.toList = [] := by kernel_rfl
theorem tb_res_34 : Try.f34.results.toList = [] := by kernel_rfl
theorem tb_res_35 : Try.f35.results.toList = [] := by kernel_rfl
theorem tb_res_36 : Try.f36.results.toList = [] := by kernel_rfl
theorem tb_res_37 : Try.f37.results.toList = [] := by kernel_rfl
theorem tb_res_38 : Try.f38.results.toList = [] := by kernel_rfl
theorem tb_res_39 : Try.f39.results.toList = [] := by kernel_rfl
theorem tb_res_4 : Try.f4.results.toList = [.tmp 2] := by kernel_rfl
theorem tb_res_40 : Try.f40.results.toList = [] := by kernel_rfl
theorem tb_res_41 : Try.f41.results.toList = [] := by kernel_rfl
theorem tb_res_42 : Try.f42.results.toList = [] := by kernel_rfl
theorem tb_res_43 : Try.f43.results.toList = [] := by kernel_rfl
theorem tb_res_44 : Try.f44.results.toList = [.tmp 2] := by kernel_rfl
theorem tb_res_45 : Try.f45.results.toList = [.tmp 2] := by kernel_rfl
theorem tb_res_46 : Try.f46.results.toList = [] := by kernel_rfl
theorem tb_res_47 : Try.f47.results.toList = [.tmp 2, .tmp 3, .tmp 4, .tmp 5, .tmp 6] := by kernel_rfl
theorem tb_res_48 : Try.f48.results.toList = [.tmp 4] := by kernel_rfl
theorem tb_res_49 : Try.f49.results.toList = [.tmp 2] := by kernel_rfl
theorem tb_res_5 : Try.f5.results.toList = [.tmp 6] := by kernel_rfl
theorem tb_res_50 : Try.f50.results.toList = [.tmp 2] := by kernel_rfl
theorem tb_res_51 : Try.f51.results.toList = [.tmp 2] := by kernel_rfl
theorem tb_res_52 : Try.f52.results.toList = [.tmp 2] := by kernel_rfl
theorem tb_res_53 : Try.f53.results.toList = [.tmp 2] := by kernel_rfl
theorem tb_res_54 : Try.f54.results.toList = [.tmp 2] := by kernel_rfl
theorem tb_res_55 : Try.f55.results.toList = [.tmp 2] := by kernel_rfl
theorem tb_res_56 : Try.f56.results.toList = [.tmp 2] := by kernel_rfl
theorem tb_res_57 : Try.f57.results.toList = [.tmp 2] := by kernel_rfl
theorem tb_res_58 : Try.f58.results.toList = [.tmp 2] := by kernel_rfl
theorem tb_res_59 : Try.f59.results.toList = [.tmp 2] := by kernel_rfl
theorem tb_res_6 : Try.f6.results.toList = [.tmp 4] := by kernel_rfl
theorem tb_res_60 : Try.f60.results.toList = [.tmp 2] := by kernel_rfl
theorem tb_res_61 : Try.f61.results.toList = [.tmp 2] := by kernel_rfl
theorem tb_res_62 : Try.f62.results.toList = [.tmp 2] := by kernel_rfl
theorem tb_res_63 : Try.f63.results.toList = [.tmp 2] := by kernel_rfl
theorem tb_res_64 : Try.f64.results.toList = [.tmp 2] := by kernel_rfl
theorem tb_res_65 : Try.f65.results.toList = [.tmp 2] := by kernel_rfl
theorem tb_res_66 : Try.f66.results.toList = [.tmp 2] := by kernel_rfl
theorem tb_res_67 : Try.f67.results.toList = [.tmp 2] := by kernel_rfl
theorem tb_res_68 : Try.f68.results.toList = [.tmp 2] := by kernel_rfl
theorem tb_res_69 : Try.f69.results.toList = [.tmp 2] := by kernel_rfl
theorem tb_res_7 : Try.f7.results.toList = [.tmp 2] := by kernel_rfl
theorem tb_res_70 : Try.f70.results.toList = [.tmp 2] := by kernel_rfl
theorem tb_res_71 : Try.f71.results.toList = [.tmp 2] := by kernel_rfl
theorem tb_res_72 : Try.f72.results.toList = [.tmp 2] := by kernel_rfl
theorem tb_res_73 : Try.f73.results.toList = [.tmp 2] := by kernel_rfl
theorem tb_res_74 : Try.f74.results.toList = [.tmp 2] := by kernel_rfl
theorem tb_res_75 : Try.f75.results.toList = [.tmp 2] := by kernel_rfl
theorem tb_res_76 : Try.f76.results.toList = [.tmp 2] := by kernel_rfl
theorem tb_res_77 : Try.f77.results.toList = [.tmp 4] := by kernel_rfl
theorem tb_res_78 : Try.f78.results.toList = [.tmp 6] := by kernel_rfl
theorem tb_res_79 : Try.f79.results.toList = [.tmp 2] := by kernel_rfl
theorem tb_res_8 : Try.f8.results.toList = [.tmp 4] := by kernel_rfl
theorem tb_res_80 : Try.f80.results.toList = [] := by kernel_rfl
theorem tb_res_81 : Try.f81.results.toList = [.tmp 4] := by kernel_rfl
theorem tb_res_82 : Try.f82.results.toList = [.tmp 2] := by kernel_rfl
theorem tb_res_83 : Try.f83.results.toList = [.tmp 2] := by kernel_rfl
theorem tb_res_84 : Try.f84.results.toList = [.tmp 2] := by kernel_rfl
theorem tb_res_85 : Try.f85.results.toList = [.tmp 2] := by kernel_rfl
theorem tb_res_86 : Try.f86.results.toList = [.tmp 2] := by kernel_rfl
theorem tb_res_87 : Try.f87.results.toList = [.tmp 2] := by kernel_rfl
theorem tb_res_88 : Try.f88.results.toList = [.tmp 2] := by kernel_rfl
theorem tb_res_9 : Try.f9.results.toList = [.tmp 0] := by kernel_rfl
theorem tb_zeroT_101 : zeroT Try.prog 101 = some (.agg #[.int .u32 0, .int .u32 0, .int .u32 0, .int .u32 0, .int .u32 0, .int .u32 0, .int .u32 0, .int .u32 0, .int .u32 0, .int .u32 0, .int .u32 0, .int .u32 0, .int .u32 0, .int .u32 0, .int .u32 0, .int .u32 0]) := by kernel_rfl
theorem tb_zeroT_110 : zeroT Try.prog 110 = some (.agg #[.slice none 0 0, .int .i64 0, .int .i64 0]) := by kernel_rfl
theorem tb_zeroT_112 : zeroT Try.prog 112 = some (.agg #[.slice none 0 0, .int .i64 0, .int .i64 0, .nilIface]) := by kernel_rfl
theorem tb_zeroT_124 : zeroT Try.prog 124 = some (.agg #[.string ByteArray.empty, .string ByteArray.empty]) := by kernel_rfl
theorem tb_zeroT_127 : zeroT Try.prog 127 = some (.agg #[.string ByteArray.empty, .int .i64 0]) := by kernel_rfl
theorem tb_zeroT_133 : zeroT Try.prog 133 = some (.agg #[.int .i64 0, .int .u8 0, .int .i64 0]) := by kernel_rfl
theorem tb_zeroT_138 : zeroT Try.prog 138 = some (.agg #[.int .u8 0, .int .u8 0, .string ByteArray.empty, .int .i64 0, .int .i64 0, .int .i64 0]) := by kernel_rfl
theorem tb_zeroT_141 : zeroT Try.prog 141 = some (.agg #[.string ByteArray.empty, .int .i64 0]) := by kernel_rfl
theorem tb_zeroT_144 : zeroT Try.prog 144 = some (.agg #[.int .u8 0, .string ByteArray.empty]) := by kernel_rfl
theorem tb_zeroT_148 : zeroT Try.prog 148 = some (.agg #[.int .u8 0, .int .i64 0, .int .i64 0]) := by kernel_rfl
theorem tb_zeroT_151 : zeroT Try.prog 151 = some (.agg #[.int .i64 0, .string ByteArray.empty]) := by kernel_rfl
theorem tb_zeroT_154 : zeroT Try.prog 154 = some (.agg #[.bool false, .int .u8 0, .int .i64 0]) := by kernel_rfl
theorem tb_zeroT_158 : zeroT Try.prog 158 = some (.agg #[.int .u8 0, .string ByteArray.empty, .int .i64 0, .int .i64 0]) := by kernel_rfl
theorem tb_zeroT_163 : zeroT Try.prog 163 = some (.agg #[.bool false, .int .i64 0, .int .i64 0, .int .u64 0]) := by kernel_rfl
theorem tb_zeroT_166 : zeroT Try.prog 166 = some (.agg #[.string ByteArray.empty, .int .i64 0]) := by kernel_rfl
theorem tb_zeroT_169 : zeroT Try.prog 169 = some (.agg #[.string ByteArray.empty, .slice none 0 0, .slice none 0 0, .int .i64 0]) := by kernel_rfl
theorem tb_zeroT_172 : zeroT Try.prog 172 = some (.agg #[.string ByteArray.empty, .slice none 0 0, .string ByteArray.empty]) := by kernel_rfl
theorem tb_zeroT_174 : zeroT Try.prog 174 = some (.agg #[.string ByteArray.empty, .slice none 0 0, .string ByteArray.empty, .int .i64 0, .int .u8 0, .int .i64 0]) := by kernel_rfl
theorem tb_zeroT_177 : zeroT Try.prog 177 = some (.agg #[.string ByteArray.empty, .slice none 0 0, .string ByteArray.empty, .int .i64 0, .bool false, .bool false, .int .u8 0, .int .i64 0, .int .u8 0, .int .i64 0]) := by kernel_rfl
theorem tb_zeroT_181 : zeroT Try.prog 181 = some (.agg #[.slice none 0 0, .string ByteArray.empty, .int .i64 0, .int .i64 0]) := by kernel_rfl
theorem tb_zeroT_184 : zeroT Try.prog 184 = some (.agg #[.string ByteArray.empty, .slice none 0 0, .slice none 0 0]) := by kernel_rfl
theorem tb_zeroT_187 : zeroT Try.prog 187 = some (.agg #[.string ByteArray.empty, .slice none 0 0]) := by kernel_rfl
theorem tb_zeroT_190 : zeroT Try.prog 190 = some (.agg #[.int .i64 0, .slice none 0 0]) := by kernel_rfl
theorem tb_zeroT_193 : zeroT Try.prog 193 = some (.agg #[.int .i64 0, .slice none 0 0, .slice none 0 0]) := by kernel_rfl
theorem tb_zeroT_196 : zeroT Try.prog 196 = some (.agg #[.string ByteArray.empty, .slice none 0 0, .slice none 0 0]) := by kernel_rfl
theorem tb_zeroT_30 : zeroT Try.prog 30 = some (.agg #[.slice none 0 0, .int .i64 0]) := by kernel_rfl
theorem tb_zeroT_33 : zeroT Try.prog 33 = some (.agg #[.slice none 0 0, .int .i64 0]) := by kernel_rfl
theorem tb_zeroT_36 : zeroT Try.prog 36 = some (.agg #[.int .i64 0, .int .u64 0, .int .i64 0, .slice none 0 0]) := by kernel_rfl
theorem tb_zeroT_43 : zeroT Try.prog 43 = some (.agg #[.int .i64 0, .int .u8 0, .slice none 0 0]) := by kernel_rfl
theorem tb_zeroT_80 : zeroT Try.prog 80 = some (.agg #[.slice none 0 0, .slice none 0 0, .slice none 0 0, .slice none 0 0, .slice none 0 0, .slice none 0 0, .slice none 0 0, .slice none 0 0, .slice none 0 0, .slice none 0 0, .slice none 0 0, .slice none 0 0, .slice none 0 0, .slice none 0 0, .slice none 0 0, .slice none 0 0, .slice none 0 0, .slice none 0 0, .slice none 0 0, .slice none 0 0, .slice none 0 0, .slice none 0 0, .slice none 0 0, .slice none 0 0, .slice none 0 0, .slice none 0 0, .slice none 0 0, .slice none 0 0]) := by kernel_rfl
theorem eqAgg_of {P : Program} {t : TypeId} {x y : Value} {r : Option Bool} (h : P.eqGuardType P.depth t = false) (hd : eqDeep P 8 t x y = r) : eqAgg P t x y = r := by unfold eqAgg; rw [h]; exact hd
theorem eqDeep_struct {P : Program} {n : Nat} {t : TypeId} {fs : Array Field} {xs ys : Array Value} {r : Option Bool} (hu : P.underlying t = some (.struct fs)) (hh : P.stoodInHeld t = false) (hf : eqFs P (eqDeep P n) xs ys fs.toList = r) : eqDeep P (n + 1) t (.agg xs) (.agg ys) = r := by unfold eqDeep; rw [hu]; show (if P.stoodInHeld t = true then _ else _) = _; rw [if_neg (by rw [hh]; decide)]; exact hf
theorem eqDeep_int {P : Program} {n : Nat} {t : TypeId} {k k' : IntKind} {a b : Int} (hu : P.underlying t = some (.int k')) : eqDeep P (n + 1) t (.int k a) (.int k b) = some (decide (a = b)) := by unfold eqDeep; rw [hu]; exact if_pos rfl
theorem eqDeep_string {P : Program} {n : Nat} {t : TypeId} {a b : ByteArray} (hu : P.underlying t = some .string) : eqDeep P (n + 1) t (.string a) (.string b) = some (decide (a.toList = b.toList)) := by unfold eqDeep; rw [hu]; show some (a.toList == b.toList) = _; by_cases h : a.toList = b.toList <;> simp [h]
theorem eqFs_nil {P : Program} {r : TypeId → Value → Value → Option Bool} {xs ys : Array Value} : eqFs P r xs ys [] = some (decide True) := rfl
theorem eqFs_cons {P : Program} {r : TypeId → Value → Value → Option Bool} {xs ys : Array Value} {f : Field} {fs : List Field} {a b : Value} {c d : Prop} [Decidable c] [Decidable d] (hn : f.name ≠ "_") (ha : partP P f.type xs f.offset = some a) (hb : partP P f.type ys f.offset = some b)
    (hr : r f.type a b = some (decide c)) (ht : eqFs P r xs ys fs = some (decide d)) : eqFs P r xs ys (f :: fs) = some (decide (c ∧ d)) := by
  unfold eqFs
  rw [if_neg hn, ha, hb]
  show (match r f.type a b with | some true => _ | some false => _ | none => _) = _
  rw [hr]
  by_cases h : c
  · rw [decide_eq_true h, ht]; simp [h]
  · rw [decide_eq_false h]; simp [h]
theorem eqPart_leaf {P : Program} {t : TypeId} {cs : Array Value} {o n : Nat} {v : Value} (h : isAggT P t = some false) (hc : cellsT P t = some n) (hv : cs[o]? = some v) : partP P t cs o = some v := by unfold partP; rw [h, hc]; exact hv
theorem eqPart_agg {P : Program} {t : TypeId} {cs : Array Value} {o n : Nat} {x : Array Value} (h : isAggT P t = some true) (hc : cellsT P t = some n) (hv : cs.extract o (o + n) = x) : partP P t cs o = some (.agg x) := by unfold partP; rw [h, hc, ← hv]
theorem tb_eqU_124 : Try.prog.underlying 124 = some (.struct #[⟨"Key", 9, 0, false, "", "", 0⟩, ⟨"Value", 9, 1, false, "", "", 16⟩]) := by kernel_rfl
theorem tb_eqH_124 : Try.prog.stoodInHeld 124 = false := by kernel_rfl
theorem tb_eqA_9 : isAggT Try.prog 9 = some false := by kernel_rfl
theorem tb_eqC_9 : cellsT Try.prog 9 = some 1 := by kernel_rfl
theorem tb_eqU_9 : Try.prog.underlying 9 = some .string := by kernel_rfl
theorem tb_eqG_124 : Try.prog.eqGuardType Try.prog.depth 124 = false := by kernel_rfl
theorem tb_eqU_127 : Try.prog.underlying 127 = some (.struct #[⟨"Key", 9, 0, false, "", "", 0⟩, ⟨"N", 2, 1, false, "", "", 16⟩]) := by kernel_rfl
theorem tb_eqH_127 : Try.prog.stoodInHeld 127 = false := by kernel_rfl
theorem tb_eqA_2 : isAggT Try.prog 2 = some false := by kernel_rfl
theorem tb_eqC_2 : cellsT Try.prog 2 = some 1 := by kernel_rfl
theorem tb_eqU_2 : Try.prog.underlying 2 = some (.int .i64) := by kernel_rfl
theorem tb_eqG_127 : Try.prog.eqGuardType Try.prog.depth 127 = false := by kernel_rfl
theorem tb_eqU_133 : Try.prog.underlying 133 = some (.struct #[⟨"Time", 2, 0, false, "", "", 0⟩, ⟨"Value", 131, 1, false, "", "", 8⟩]) := by kernel_rfl
theorem tb_eqH_133 : Try.prog.stoodInHeld 133 = false := by kernel_rfl
theorem tb_eqA_131 : isAggT Try.prog 131 = some true := by kernel_rfl
theorem tb_eqC_131 : cellsT Try.prog 131 = some 2 := by kernel_rfl
theorem tb_eqU_131 : Try.prog.underlying 131 = some (.struct #[⟨"Kind", 129, 0, false, "", "", 0⟩, ⟨"N", 2, 1, false, "", "", 8⟩]) := by kernel_rfl
theorem tb_eqH_131 : Try.prog.stoodInHeld 131 = false := by kernel_rfl
theorem tb_eqA_129 : isAggT Try.prog 129 = some false := by kernel_rfl
theorem tb_eqC_129 : cellsT Try.prog 129 = some 1 := by kernel_rfl
theorem tb_eqU_129 : Try.prog.underlying 129 = some (.int .u8) := by kernel_rfl
theorem tb_eqG_133 : Try.prog.eqGuardType Try.prog.depth 133 = false := by kernel_rfl
theorem tb_eqU_138 : Try.prog.underlying 138 = some (.struct #[⟨"Op", 135, 0, false, "", "", 0⟩, ⟨"Func", 136, 1, false, "", "", 1⟩, ⟨"S", 9, 2, false, "", "", 8⟩, ⟨"N", 2, 3, false, "", "", 24⟩, ⟨"Kids", 3, 4, false, "", "", 32⟩, ⟨"Pos", 3, 5, false, "", "", 40⟩]) := by kernel_rfl
theorem tb_eqH_138 : Try.prog.stoodInHeld 138 = false := by kernel_rfl
theorem tb_eqA_135 : isAggT Try.prog 135 = some false := by kernel_rfl
theorem tb_eqC_135 : cellsT Try.prog 135 = some 1 := by kernel_rfl
theorem tb_eqU_135 : Try.prog.underlying 135 = some (.int .u8) := by kernel_rfl
theorem tb_eqA_136 : isAggT Try.prog 136 = some false := by kernel_rfl
theorem tb_eqC_136 : cellsT Try.prog 136 = some 1 := by kernel_rfl
theorem tb_eqU_136 : Try.prog.underlying 136 = some (.int .u8) := by kernel_rfl
theorem tb_eqA_3 : isAggT Try.prog 3 = some false := by kernel_rfl
theorem tb_eqC_3 : cellsT Try.prog 3 = some 1 := by kernel_rfl
theorem tb_eqU_3 : Try.prog.underlying 3 = some (.int .i64) := by kernel_rfl
theorem tb_eqG_138 : Try.prog.eqGuardType Try.prog.depth 138 = false := by kernel_rfl
theorem tb_eqU_141 : Try.prog.underlying 141 = some (.struct #[⟨"Text", 9, 0, false, "", "", 0⟩, ⟨"Pos", 3, 1, false, "", "", 16⟩]) := by kernel_rfl
theorem tb_eqH_141 : Try.prog.stoodInHeld 141 = false := by kernel_rfl
theorem tb_eqG_141 : Try.prog.eqGuardType Try.prog.depth 141 = false := by kernel_rfl
theorem tb_eqU_144 : Try.prog.underlying 144 = some (.struct #[⟨"Func", 136, 0, false, "", "", 0⟩, ⟨"Field", 9, 1, false, "", "", 8⟩]) := by kernel_rfl
theorem tb_eqH_144 : Try.prog.stoodInHeld 144 = false := by kernel_rfl
theorem tb_eqG_144 : Try.prog.eqGuardType Try.prog.depth 144 = false := by kernel_rfl
theorem tb_eqU_148 : Try.prog.underlying 148 = some (.struct #[⟨"Code", 146, 0, false, "", "", 0⟩, ⟨"A", 3, 1, false, "", "", 8⟩, ⟨"B", 3, 2, false, "", "", 16⟩]) := by kernel_rfl
theorem tb_eqH_148 : Try.prog.stoodInHeld 148 = false := by kernel_rfl
theorem tb_eqA_146 : isAggT Try.prog 146 = some false := by kernel_rfl
theorem tb_eqC_146 : cellsT Try.prog 146 = some 1 := by kernel_rfl
theorem tb_eqU_146 : Try.prog.underlying 146 = some (.int .u8) := by kernel_rfl
theorem tb_eqG_148 : Try.prog.eqGuardType Try.prog.depth 148 = false := by kernel_rfl
theorem tb_eqU_151 : Try.prog.underlying 151 = some (.struct #[⟨"Rank", 2, 0, false, "", "", 0⟩, ⟨"Name", 9, 1, false, "", "", 8⟩]) := by kernel_rfl
theorem tb_eqH_151 : Try.prog.stoodInHeld 151 = false := by kernel_rfl
theorem tb_eqG_151 : Try.prog.eqGuardType Try.prog.depth 151 = false := by kernel_rfl
theorem tb_eqU_158 : Try.prog.underlying 158 = some (.struct #[⟨"Kind", 156, 0, false, "", "", 0⟩, ⟨"Text", 9, 1, false, "", "", 8⟩, ⟨"N", 2, 2, false, "", "", 24⟩, ⟨"Pos", 3, 3, false, "", "", 32⟩]) := by kernel_rfl
theorem tb_eqH_158 : Try.prog.stoodInHeld 158 = false := by kernel_rfl
theorem tb_eqA_156 : isAggT Try.prog 156 = some false := by kernel_rfl
theorem tb_eqC_156 : cellsT Try.prog 156 = some 1 := by kernel_rfl
theorem tb_eqU_156 : Try.prog.underlying 156 = some (.int .u8) := by kernel_rfl
theorem tb_eqG_158 : Try.prog.eqGuardType Try.prog.depth 158 = false := by kernel_rfl
theorem tb_eqU_166 : Try.prog.underlying 166 = some (.struct #[⟨"Name", 9, 0, false, "", "", 0⟩, ⟨"Keep", 3, 1, false, "", "", 16⟩]) := by kernel_rfl
theorem tb_eqH_166 : Try.prog.stoodInHeld 166 = false := by kernel_rfl
theorem tb_eqG_166 : Try.prog.eqGuardType Try.prog.depth 166 = false := by kernel_rfl
theorem tb_eqS_124 (a0 b0 : ByteArray) (a1 b1 : ByteArray) : (eqAgg Try.prog 124 (.agg #[.string a0, .string a1]) (.agg #[.string b0, .string b1])) = some (decide (a0.toList = b0.toList ∧ a1.toList = b1.toList)) := (eqAgg_of tb_eqG_124 (eqDeep_struct tb_eqU_124 tb_eqH_124 (eqFs_cons (by decide) (eqPart_leaf tb_eqA_9 tb_eqC_9 rfl) (eqPart_leaf tb_eqA_9 tb_eqC_9 rfl) (eqDeep_string tb_eqU_9) (eqFs_cons (by decide) (eqPart_leaf tb_eqA_9 tb_eqC_9 rfl) (eqPart_leaf tb_eqA_9 tb_eqC_9 rfl) (eqDeep_string tb_eqU_9) eqFs_nil)))).trans (by simp)
theorem tb_eqS_127 (a0 b0 : ByteArray) (a1 b1 : Int) : (eqAgg Try.prog 127 (.agg #[.string a0, .int .i64 a1]) (.agg #[.string b0, .int .i64 b1])) = some (decide (a0.toList = b0.toList ∧ a1 = b1)) := (eqAgg_of tb_eqG_127 (eqDeep_struct tb_eqU_127 tb_eqH_127 (eqFs_cons (by decide) (eqPart_leaf tb_eqA_9 tb_eqC_9 rfl) (eqPart_leaf tb_eqA_9 tb_eqC_9 rfl) (eqDeep_string tb_eqU_9) (eqFs_cons (by decide) (eqPart_leaf tb_eqA_2 tb_eqC_2 rfl) (eqPart_leaf tb_eqA_2 tb_eqC_2 rfl) (eqDeep_int tb_eqU_2) eqFs_nil)))).trans (by simp)
theorem tb_eqS_133 (a0 b0 : Int) (a1 b1 : Int) (a2 b2 : Int) : (eqAgg Try.prog 133 (.agg #[.int .i64 a0, .int .u8 a1, .int .i64 a2]) (.agg #[.int .i64 b0, .int .u8 b1, .int .i64 b2])) = some (decide (a0 = b0 ∧ a1 = b1 ∧ a2 = b2)) := (eqAgg_of tb_eqG_133 (eqDeep_struct tb_eqU_133 tb_eqH_133 (eqFs_cons (by decide) (eqPart_leaf tb_eqA_2 tb_eqC_2 rfl) (eqPart_leaf tb_eqA_2 tb_eqC_2 rfl) (eqDeep_int tb_eqU_2) (eqFs_cons (by decide) (eqPart_agg tb_eqA_131 tb_eqC_131 rfl) (eqPart_agg tb_eqA_131 tb_eqC_131 rfl) (eqDeep_struct tb_eqU_131 tb_eqH_131 (eqFs_cons (by decide) (eqPart_leaf tb_eqA_129 tb_eqC_129 rfl) (eqPart_leaf tb_eqA_129 tb_eqC_129 rfl) (eqDeep_int tb_eqU_129) (eqFs_cons (by decide) (eqPart_leaf tb_eqA_2 tb_eqC_2 rfl) (eqPart_leaf tb_eqA_2 tb_eqC_2 rfl) (eqDeep_int tb_eqU_2) eqFs_nil))) eqFs_nil)))).trans (by simp)
theorem tb_eqS_138 (a0 b0 : Int) (a1 b1 : Int) (a2 b2 : ByteArray) (a3 b3 : Int) (a4 b4 : Int) (a5 b5 : Int) : (eqAgg Try.prog 138 (.agg #[.int .u8 a0, .int .u8 a1, .string a2, .int .i64 a3, .int .i64 a4, .int .i64 a5]) (.agg #[.int .u8 b0, .int .u8 b1, .string b2, .int .i64 b3, .int .i64 b4, .int .i64 b5])) = some (decide (a0 = b0 ∧ a1 = b1 ∧ a2.toList = b2.toList ∧ a3 = b3 ∧ a4 = b4 ∧ a5 = b5)) := (eqAgg_of tb_eqG_138 (eqDeep_struct tb_eqU_138 tb_eqH_138 (eqFs_cons (by decide) (eqPart_leaf tb_eqA_135 tb_eqC_135 rfl) (eqPart_leaf tb_eqA_135 tb_eqC_135 rfl) (eqDeep_int tb_eqU_135) (eqFs_cons (by decide) (eqPart_leaf tb_eqA_136 tb_eqC_136 rfl) (eqPart_leaf tb_eqA_136 tb_eqC_136 rfl) (eqDeep_int tb_eqU_136) (eqFs_cons (by decide) (eqPart_leaf tb_eqA_9 tb_eqC_9 rfl) (eqPart_leaf tb_eqA_9 tb_eqC_9 rfl) (eqDeep_string tb_eqU_9) (eqFs_cons (by decide) (eqPart_leaf tb_eqA_2 tb_eqC_2 rfl) (eqPart_leaf tb_eqA_2 tb_eqC_2 rfl) (eqDeep_int tb_eqU_2) (eqFs_cons (by decide) (eqPart_leaf tb_eqA_3 tb_eqC_3 rfl) (eqPart_leaf tb_eqA_3 tb_eqC_3 rfl) (eqDeep_int tb_eqU_3) (eqFs_cons (by decide) (eqPart_leaf tb_eqA_3 tb_eqC_3 rfl) (eqPart_leaf tb_eqA_3 tb_eqC_3 rfl) (eqDeep_int tb_eqU_3) eqFs_nil)))))))).trans (by simp)
theorem tb_eqS_141 (a0 b0 : ByteArray) (a1 b1 : Int) : (eqAgg Try.prog 141 (.agg #[.string a0, .int .i64 a1]) (.agg #[.string b0, .int .i64 b1])) = some (decide (a0.toList = b0.toList ∧ a1 = b1)) := (eqAgg_of tb_eqG_141 (eqDeep_struct tb_eqU_141 tb_eqH_141 (eqFs_cons (by decide) (eqPart_leaf tb_eqA_9 tb_eqC_9 rfl) (eqPart_leaf tb_eqA_9 tb_eqC_9 rfl) (eqDeep_string tb_eqU_9) (eqFs_cons (by decide) (eqPart_leaf tb_eqA_3 tb_eqC_3 rfl) (eqPart_leaf tb_eqA_3 tb_eqC_3 rfl) (eqDeep_int tb_eqU_3) eqFs_nil)))).trans (by simp)
theorem tb_eqS_144 (a0 b0 : Int) (a1 b1 : ByteArray) : (eqAgg Try.prog 144 (.agg #[.int .u8 a0, .string a1]) (.agg #[.int .u8 b0, .string b1])) = some (decide (a0 = b0 ∧ a1.toList = b1.toList)) := (eqAgg_of tb_eqG_144 (eqDeep_struct tb_eqU_144 tb_eqH_144 (eqFs_cons (by decide) (eqPart_leaf tb_eqA_136 tb_eqC_136 rfl) (eqPart_leaf tb_eqA_136 tb_eqC_136 rfl) (eqDeep_int tb_eqU_136) (eqFs_cons (by decide) (eqPart_leaf tb_eqA_9 tb_eqC_9 rfl) (eqPart_leaf tb_eqA_9 tb_eqC_9 rfl) (eqDeep_string tb_eqU_9) eqFs_nil)))).trans (by simp)
theorem tb_eqS_148 (a0 b0 : Int) (a1 b1 : Int) (a2 b2 : Int) : (eqAgg Try.prog 148 (.agg #[.int .u8 a0, .int .i64 a1, .int .i64 a2]) (.agg #[.int .u8 b0, .int .i64 b1, .int .i64 b2])) = some (decide (a0 = b0 ∧ a1 = b1 ∧ a2 = b2)) := (eqAgg_of tb_eqG_148 (eqDeep_struct tb_eqU_148 tb_eqH_148 (eqFs_cons (by decide) (eqPart_leaf tb_eqA_146 tb_eqC_146 rfl) (eqPart_leaf tb_eqA_146 tb_eqC_146 rfl) (eqDeep_int tb_eqU_146) (eqFs_cons (by decide) (eqPart_leaf tb_eqA_3 tb_eqC_3 rfl) (eqPart_leaf tb_eqA_3 tb_eqC_3 rfl) (eqDeep_int tb_eqU_3) (eqFs_cons (by decide) (eqPart_leaf tb_eqA_3 tb_eqC_3 rfl) (eqPart_leaf tb_eqA_3 tb_eqC_3 rfl) (eqDeep_int tb_eqU_3) eqFs_nil))))).trans (by simp)
theorem tb_eqS_151 (a0 b0 : Int) (a1 b1 : ByteArray) : (eqAgg Try.prog 151 (.agg #[.int .i64 a0, .string a1]) (.agg #[.int .i64 b0, .string b1])) = some (decide (a0 = b0 ∧ a1.toList = b1.toList)) := (eqAgg_of tb_eqG_151 (eqDeep_struct tb_eqU_151 tb_eqH_151 (eqFs_cons (by decide) (eqPart_leaf tb_eqA_2 tb_eqC_2 rfl) (eqPart_leaf tb_eqA_2 tb_eqC_2 rfl) (eqDeep_int tb_eqU_2) (eqFs_cons (by decide) (eqPart_leaf tb_eqA_9 tb_eqC_9 rfl) (eqPart_leaf tb_eqA_9 tb_eqC_9 rfl) (eqDeep_string tb_eqU_9) eqFs_nil)))).trans (by simp)
theorem tb_eqS_158 (a0 b0 : Int) (a1 b1 : ByteArray) (a2 b2 : Int) (a3 b3 : Int) : (eqAgg Try.prog 158 (.agg #[.int .u8 a0, .string a1, .int .i64 a2, .int .i64 a3]) (.agg #[.int .u8 b0, .string b1, .int .i64 b2, .int .i64 b3])) = some (decide (a0 = b0 ∧ a1.toList = b1.toList ∧ a2 = b2 ∧ a3 = b3)) := (eqAgg_of tb_eqG_158 (eqDeep_struct tb_eqU_158 tb_eqH_158 (eqFs_cons (by decide) (eqPart_leaf tb_eqA_156 tb_eqC_156 rfl) (eqPart_leaf tb_eqA_156 tb_eqC_156 rfl) (eqDeep_int tb_eqU_156) (eqFs_cons (by decide) (eqPart_leaf tb_eqA_9 tb_eqC_9 rfl) (eqPart_leaf tb_eqA_9 tb_eqC_9 rfl) (eqDeep_string tb_eqU_9) (eqFs_cons (by decide) (eqPart_leaf tb_eqA_2 tb_eqC_2 rfl) (eqPart_leaf tb_eqA_2 tb_eqC_2 rfl) (eqDeep_int tb_eqU_2) (eqFs_cons (by decide) (eqPart_leaf tb_eqA_3 tb_eqC_3 rfl) (eqPart_leaf tb_eqA_3 tb_eqC_3 rfl) (eqDeep_int tb_eqU_3) eqFs_nil)))))).trans (by simp)
theorem tb_eqS_166 (a0 b0 : ByteArray) (a1 b1 : Int) : (eqAgg Try.prog 166 (.agg #[.string a0, .int .i64 a1]) (.agg #[.string b0, .int .i64 b1])) = some (decide (a0.toList = b0.toList ∧ a1 = b1)) := (eqAgg_of tb_eqG_166 (eqDeep_struct tb_eqU_166 tb_eqH_166 (eqFs_cons (by decide) (eqPart_leaf tb_eqA_9 tb_eqC_9 rfl) (eqPart_leaf tb_eqA_9 tb_eqC_9 rfl) (eqDeep_string tb_eqU_9) (eqFs_cons (by decide) (eqPart_leaf tb_eqA_3 tb_eqC_3 rfl) (eqPart_leaf tb_eqA_3 tb_eqC_3 rfl) (eqDeep_int tb_eqU_3) eqFs_nil)))).trans (by simp)
/- all facts that one function's walk wants. -/
abbrev tf2 := (And.intro @tb_res_2 @tb_callable_1)
abbrev tf3 := (And.intro (And.intro @tb_res_3 @tb_callable_9) (And.intro @tb_callable_10 @tb_callable_11))
abbrev tf4 := (And.intro (And.intro (And.intro (And.intro @tb_res_4 @tb_buildT_30) (And.intro @tb_zeroT_30 (And.intro @tb_buildT_33 @tb_zeroT_33))) (And.intro (And.intro @tb_lenT_27 (And.intro @tb_indexT_27 @tb_isAggT_36)) (And.intro @tb_cellsT_36 (And.intro @tb_zeroT_36 @tb_callable_12)))) (And.intro (And.intro (And.intro @tb_callable_13 @tb_fieldOff_33_0) (And.intro @tb_isAggT_22 (And.intro @tb_cellsT_22 @tb_lenT_22))) (And.intro (And.intro @tb_fieldOff_36_0 (And.intro @tb_isAggT_3 @tb_cellsT_3)) (And.intro @tb_callable_15 (And.intro @tb_callable_14 @tb_callable_9)))))
abbrev tf5 := (And.intro (And.intro (And.intro (And.intro @tb_res_5 @tb_zeroT_43) (And.intro @tb_callable_16 @tb_eqT_45)) (And.intro (And.intro @tb_lenT_22 @tb_bsT_22_0) (And.intro @tb_fieldOff_43_2 (And.intro @tb_isAggT_22 @tb_cellsT_22)))) (And.intro (And.intro (And.intro @tb_callable_17 @tb_callable_14) (And.intro @tb_fieldOff_43_0 (And.intro @tb_isAggT_3 @tb_cellsT_3))) (And.intro (And.intro @tb_indexT_22 @tb_isAggT_5) (And.intro @tb_cellsT_5 (And.intro @tb_fieldOff_43_1 @tb_eqT_4)))))
abbrev tf6 := (And.intro (And.intro (And.intro (And.intro @tb_res_6 (And.intro @tb_buildT_30 @tb_zeroT_30)) (And.intro (And.intro @tb_buildT_33 @tb_zeroT_33) (And.intro @tb_zeroT_80 @tb_lenT_27))) (And.intro (And.intro @tb_indexT_27 (And.intro @tb_isAggT_36 @tb_cellsT_36)) (And.intro (And.intro @tb_zeroT_36 @tb_callable_12) (And.intro @tb_callable_15 @tb_callable_18)))) (And.intro (And.intro (And.intro @tb_callable_16 (And.intro @tb_callable_17 @tb_callable_19)) (And.intro (And.intro @tb_fieldOff_36_0 @tb_isAggT_3) (And.intro @tb_cellsT_3 @tb_fieldOff_36_3))) (And.intro (And.intro (And.intro @tb_isAggT_22 @tb_cellsT_22) (And.intro @tb_lenT_22 @tb_callable_20)) (And.intro (And.intro @tb_callable_9 @tb_callable_21) (And.intro @tb_fieldOff_33_0 @tb_callable_14)))))
abbrev tf7 := (And.intro (And.intro (And.intro (And.intro (And.intro @tb_res_7 @tb_buildT_30) (And.intro @tb_zeroT_30 (And.intro @tb_buildT_33 @tb_zeroT_33))) (And.intro (And.intro @tb_lenT_27 @tb_indexT_27) (And.intro @tb_isAggT_36 (And.intro @tb_cellsT_36 @tb_zeroT_36)))) (And.intro (And.intro (And.intro @tb_callable_12 @tb_callable_15) (And.intro @tb_callable_19 (And.intro @tb_fieldOff_36_0 @tb_isAggT_3))) (And.intro (And.intro @tb_cellsT_3 @tb_callable_22) (And.intro @tb_fieldOff_36_1 (And.intro @tb_isAggT_34 @tb_cellsT_34))))) (And.intro (And.intro (And.intro (And.intro @tb_convT_34_5 @tb_callable_23) (And.intro @tb_convT_34_24 (And.intro @tb_callable_24 @tb_callable_25))) (And.intro (And.intro @tb_convT_34_2 @tb_fieldOff_36_3) (And.intro @tb_isAggT_22 (And.intro @tb_cellsT_22 @tb_lenT_22)))) (And.intro (And.intro (And.intro @tb_callable_26 @tb_convT_22_9) (And.intro @tb_callable_20 (And.intro @tb_callable_14 @tb_fieldOff_36_2))) (And.intro (And.intro @tb_callable_27 @tb_callable_28) (And.intro @tb_callable_9 (And.intro @tb_callable_29 @tb_eqT_45))))))
abbrev tf8 := (And.intro (And.intro (And.intro (And.intro (And.intro @tb_res_8 @tb_callable_19) (And.intro @tb_buildT_30 @tb_zeroT_30)) (And.intro (And.intro @tb_lenT_27 @tb_indexT_27) (And.intro @tb_isAggT_36 @tb_cellsT_36))) (And.intro (And.intro (And.intro @tb_zeroT_36 @tb_fieldOff_36_0) (And.intro @tb_isAggT_3 @tb_cellsT_3)) (And.intro (And.intro @tb_callable_22 @tb_callable_30) (And.intro @tb_callable_23 (And.intro @tb_callable_31 @tb_fieldOff_36_1))))) (And.intro (And.intro (And.intro (And.intro @tb_isAggT_34 @tb_cellsT_34) (And.intro @tb_callable_24 @tb_callable_32)) (And.intro (And.intro @tb_callable_25 @tb_callable_33) (And.intro @tb_fieldOff_36_2 (And.intro @tb_callable_26 @tb_callable_34)))) (And.intro (And.intro (And.intro @tb_callable_20 @tb_callable_35) (And.intro @tb_callable_27 @tb_callable_36)) (And.intro (And.intro @tb_callable_9 @tb_callable_29) (And.intro @tb_eqT_45 (And.intro @tb_callable_15 @tb_callable_14))))))
abbrev tf9 := (And.intro (And.intro (And.intro @tb_res_9 @tb_buildT_30) (And.intro @tb_zeroT_30 (And.intro @tb_callable_36 @tb_callable_32))) (And.intro (And.intro @tb_callable_15 (And.intro @tb_bsT_22_3 @tb_callable_14)) (And.intro @tb_bsT_22_9 (And.intro @tb_convT_22_22 @tb_callable_10))))
abbrev tf10 := (And.intro (And.intro (And.intro @tb_res_10 (And.intro @tb_buildT_101 @tb_zeroT_101)) (And.intro @tb_isAggT_101 (And.intro @tb_cellsT_101 @tb_lenT_22))) (And.intro (And.intro @tb_indexT_22 (And.intro @tb_isAggT_5 @tb_cellsT_5)) (And.intro (And.intro @tb_convT_5_24 @tb_indexT_101) (And.intro @tb_isAggT_24 @tb_cellsT_24))))
abbrev tf11 := (And.intro (And.intro @tb_res_11 (And.intro @tb_lenT_22 @tb_indexT_22)) (And.intro @tb_isAggT_5 (And.intro @tb_cellsT_5 @tb_convT_5_24)))
abbrev tf12 := (And.intro (And.intro (And.intro (And.intro @tb_res_12 (And.intro @tb_zeroT_36 @tb_fieldOff_36_0)) (And.intro (And.intro @tb_isAggT_3 @tb_cellsT_3) (And.intro @tb_fieldOff_36_1 @tb_isAggT_34))) (And.intro (And.intro (And.intro @tb_cellsT_34 @tb_convT_34_5) (And.intro @tb_callable_30 @tb_callable_37)) (And.intro (And.intro @tb_convT_34_24 @tb_callable_31) (And.intro @tb_callable_38 @tb_callable_32)))) (And.intro (And.intro (And.intro @tb_callable_39 (And.intro @tb_convT_34_2 @tb_callable_33)) (And.intro (And.intro @tb_callable_40 @tb_fieldOff_36_3) (And.intro @tb_isAggT_22 @tb_cellsT_22))) (And.intro (And.intro (And.intro @tb_convT_22_9 @tb_callable_34) (And.intro @tb_callable_41 @tb_callable_35)) (And.intro (And.intro @tb_callable_42 @tb_fieldOff_36_2) (And.intro @tb_callable_36 @tb_callable_43)))))
abbrev tf13 := (And.intro (And.intro @tb_res_13 (And.intro @tb_eqT_28 @tb_fieldOff_30_0)) (And.intro @tb_isAggT_22 (And.intro @tb_cellsT_22 @tb_lenT_22)))
abbrev tf14 := (And.intro (And.intro @tb_res_14 @tb_lenT_22) (And.intro @tb_indexT_22 (And.intro @tb_isAggT_5 @tb_cellsT_5)))
abbrev tf15 := (And.intro (And.intro @tb_res_15 (And.intro @tb_eqT_28 @tb_fieldOff_30_0)) (And.intro @tb_isAggT_22 (And.intro @tb_cellsT_22 @tb_callable_44)))
abbrev tf16 := (And.intro (And.intro (And.intro @tb_res_16 (And.intro @tb_lenT_22 @tb_callable_45)) (And.intro @tb_zeroT_30 (And.intro @tb_callable_30 @tb_convT_3_24))) (And.intro (And.intro @tb_callable_31 (And.intro @tb_convT_34_24 @tb_fieldOff_30_0)) (And.intro (And.intro @tb_isAggT_22 @tb_cellsT_22) (And.intro @tb_callable_10 @tb_callable_46))))
abbrev tf17 := (And.intro (And.intro (And.intro @tb_res_17 @tb_lenT_22) (And.intro @tb_indexT_22 (And.intro @tb_callable_19 @tb_callable_22))) (And.intro (And.intro @tb_callable_23 @tb_convT_24_3) (And.intro @tb_convT_24_34 (And.intro @tb_callable_10 @tb_callable_44))))
abbrev tf18 := (And.intro (And.intro @tb_res_18 @tb_fieldOff_80_0) (And.intro @tb_isAggT_51 (And.intro @tb_cellsT_51 @tb_bsT_51_1)))
abbrev tf19 := (And.intro (And.intro @tb_res_19 @tb_callable_44) (And.intro @tb_buildT_110 (And.intro @tb_buildT_112 @tb_zeroT_112)))
abbrev tf20 := (And.intro @tb_res_20 (And.intro @tb_callable_48 @tb_callable_44))
abbrev tf21 := (And.intro (And.intro (And.intro (And.intro (And.intro @tb_res_21 @tb_callable_49) (And.intro @tb_callable_50 @tb_callable_51)) (And.intro (And.intro @tb_callable_52 @tb_callable_53) (And.intro @tb_callable_54 @tb_callable_55))) (And.intro (And.intro (And.intro @tb_callable_56 @tb_callable_57) (And.intro @tb_callable_58 @tb_callable_59)) (And.intro (And.intro @tb_callable_60 @tb_callable_61) (And.intro @tb_callable_62 @tb_callable_63)))) (And.intro (And.intro (And.intro (And.intro @tb_callable_64 @tb_callable_65) (And.intro @tb_callable_66 @tb_callable_67)) (And.intro (And.intro @tb_callable_68 @tb_callable_69) (And.intro @tb_callable_70 @tb_callable_71))) (And.intro (And.intro (And.intro @tb_callable_72 @tb_callable_73) (And.intro @tb_callable_74 @tb_callable_75)) (And.intro (And.intro @tb_callable_76 @tb_buildT_80) (And.intro @tb_isAggT_80 @tb_cellsT_80)))))
abbrev tf22 := (And.intro (And.intro @tb_res_22 (And.intro @tb_callable_77 @tb_lenT_22)) (And.intro @tb_indexT_22 (And.intro @tb_isAggT_5 @tb_cellsT_5)))
abbrev tf23 := (And.intro (And.intro @tb_res_23 (And.intro @tb_callable_77 @tb_lenT_22)) (And.intro (And.intro @tb_indexT_22 @tb_isAggT_5) (And.intro @tb_cellsT_5 @tb_convT_5_24)))
abbrev tf24 := (And.intro @tb_res_24 @tb_callable_78)
abbrev tf25 := (And.intro @tb_res_25 (And.intro @tb_callable_78 @tb_convT_34_2))
abbrev tf26 := (And.intro @tb_res_26 (And.intro @tb_callable_48 @tb_convT_22_9))
abbrev tf27 := (And.intro (And.intro (And.intro (And.intro @tb_res_27 @tb_eqT_82) (And.intro @tb_fieldOff_112_1 (And.intro @tb_isAggT_45 @tb_cellsT_45))) (And.intro (And.intro @tb_eqT_45 (And.intro @tb_fieldOff_112_0 @tb_fieldOff_110_2)) (And.intro @tb_isAggT_3 (And.intro @tb_cellsT_3 @tb_callable_79)))) (And.intro (And.intro (And.intro @tb_fieldOff_110_0 @tb_isAggT_22) (And.intro @tb_cellsT_22 (And.intro @tb_lenT_22 @tb_callable_81))) (And.intro (And.intro @tb_callable_80 (And.intro @tb_fieldOff_110_1 @tb_indexT_22)) (And.intro @tb_isAggT_5 (And.intro @tb_cellsT_5 @tb_convT_5_34)))))
abbrev tf28 := @tb_res_28
abbrev tf29 := (And.intro (And.intro (And.intro @tb_res_29 @tb_callable_82) (And.intro @tb_eqT_45 (And.intro @tb_fieldOff_112_0 @tb_callable_83))) (And.intro (And.intro @tb_fieldOff_110_1 @tb_isAggT_3) (And.intro @tb_cellsT_3 (And.intro @tb_callable_81 @tb_callable_79))))
abbrev tf30 := (And.intro @tb_res_30 (And.intro @tb_bsT_22_1 @tb_callable_46))
abbrev tf31 := (And.intro (And.intro @tb_res_31 @tb_convT_24_5) (And.intro @tb_bsT_22_4 @tb_callable_46))
abbrev tf32 := (And.intro (And.intro @tb_res_32 @tb_convT_34_5) (And.intro @tb_bsT_22_1 @tb_callable_46))
abbrev tf33 := (And.intro @tb_res_33 (And.intro @tb_convT_2_34 @tb_callable_32))
abbrev tf34 := (And.intro @tb_res_34 (And.intro @tb_convT_9_22 @tb_callable_35))
abbrev tf35 := (And.intro (And.intro @tb_res_35 @tb_lenT_22) (And.intro @tb_convT_3_34 (And.intro @tb_callable_32 @tb_callable_46)))
abbrev tf36 := (And.intro (And.intro (And.intro @tb_res_36 (And.intro @tb_eqT_28 @tb_fieldOff_30_1)) (And.intro (And.intro @tb_isAggT_3 @tb_cellsT_3) (And.intro @tb_fieldOff_30_0 @tb_isAggT_22))) (And.intro (And.intro @tb_cellsT_22 (And.intro @tb_bsT_22_1 @tb_lenT_22)) (And.intro (And.intro @tb_indexT_22 @tb_isAggT_5) (And.intro @tb_cellsT_5 @tb_convT_34_5))))
abbrev tf37 := (And.intro (And.intro (And.intro @tb_res_37 @tb_fieldOff_33_0) (And.intro @tb_isAggT_22 @tb_cellsT_22)) (And.intro (And.intro @tb_bsT_22_1 @tb_fieldOff_33_1) (And.intro @tb_isAggT_3 @tb_cellsT_3)))
abbrev tf38 := (And.intro @tb_res_38 (And.intro @tb_convT_24_5 @tb_callable_37))
abbrev tf39 := (And.intro @tb_res_39 (And.intro @tb_convT_34_5 @tb_callable_37))
abbrev tf40 := (And.intro @tb_res_40 (And.intro @tb_callable_84 @tb_callable_39))
abbrev tf41 := (And.intro @tb_res_41 (And.intro @tb_convT_9_22 @tb_callable_42))
abbrev tf42 := (And.intro (And.intro (And.intro @tb_res_42 @tb_lenT_22) (And.intro @tb_convT_3_34 @tb_callable_39)) (And.intro (And.intro @tb_indexT_22 @tb_isAggT_5) (And.intro @tb_cellsT_5 @tb_callable_37)))
abbrev tf43 := (And.intro (And.intro (And.intro @tb_res_43 (And.intro @tb_callable_85 @tb_fieldOff_33_1)) (And.intro @tb_isAggT_3 (And.intro @tb_cellsT_3 @tb_fieldOff_33_0))) (And.intro (And.intro @tb_isAggT_22 (And.intro @tb_cellsT_22 @tb_bsT_22_1)) (And.intro (And.intro @tb_lenT_22 @tb_indexT_22) (And.intro @tb_isAggT_5 @tb_cellsT_5))))
abbrev tf44 := (And.intro @tb_res_44 (And.intro @tb_eqT_22 @tb_bsT_22_0))
abbrev tf45 := (And.intro @tb_res_45 @tb_ifaceT_105)
abbrev tf46 := (And.intro (And.intro (And.intro @tb_res_46 @tb_eqT_28) (And.intro @tb_fieldOff_30_0 @tb_isAggT_22)) (And.intro (And.intro @tb_cellsT_22 @tb_fieldOff_30_1) (And.intro @tb_isAggT_3 @tb_cellsT_3)))
abbrev tf47 := (And.intro @tb_res_47 @tb_callable_45)
abbrev tf48 := (And.intro (And.intro (And.intro (And.intro @tb_res_48 (And.intro @tb_callable_86 @tb_fieldOff_112_0)) (And.intro @tb_isAggT_110 (And.intro @tb_cellsT_110 @tb_zeroT_110))) (And.intro (And.intro @tb_convT_3_34 (And.intro @tb_callable_78 @tb_fieldOff_112_1)) (And.intro @tb_isAggT_45 (And.intro @tb_cellsT_45 @tb_eqT_45)))) (And.intro (And.intro (And.intro @tb_fieldOff_110_1 (And.intro @tb_isAggT_3 @tb_cellsT_3)) (And.intro @tb_callable_81 (And.intro @tb_callable_80 @tb_callable_79))) (And.intro (And.intro @tb_fieldOff_110_0 (And.intro @tb_isAggT_22 @tb_cellsT_22)) (And.intro @tb_lenT_22 (And.intro @tb_convT_34_3 @tb_callable_77)))))
abbrev tf49 := (And.intro (And.intro (And.intro @tb_res_49 (And.intro @tb_fieldOff_80_0 @tb_isAggT_51)) (And.intro (And.intro @tb_cellsT_51 @tb_lenT_51) (And.intro @tb_indexT_51 @tb_isAggT_22))) (And.intro (And.intro (And.intro @tb_cellsT_22 @tb_lenT_22) (And.intro @tb_convT_3_5 @tb_indexT_22)) (And.intro (And.intro @tb_isAggT_5 @tb_cellsT_5) (And.intro @tb_bsT_22_1 @tb_bsT_51_1))))
abbrev tf50 := (And.intro (And.intro (And.intro @tb_res_50 (And.intro @tb_fieldOff_80_1 @tb_isAggT_52)) (And.intro (And.intro @tb_cellsT_52 @tb_lenT_52) (And.intro @tb_indexT_52 @tb_isAggT_118))) (And.intro (And.intro (And.intro @tb_cellsT_118 @tb_lenT_118) (And.intro @tb_callable_87 @tb_indexT_118)) (And.intro (And.intro @tb_isAggT_9 @tb_cellsT_9) (And.intro @tb_bsT_118_1 @tb_bsT_52_1))))
abbrev tf51 := (And.intro (And.intro (And.intro @tb_res_51 (And.intro @tb_fieldOff_80_2 @tb_isAggT_53)) (And.intro (And.intro @tb_cellsT_53 @tb_lenT_53) (And.intro @tb_indexT_53 @tb_isAggT_119))) (And.intro (And.intro @tb_cellsT_119 (And.intro @tb_lenT_119 @tb_indexT_119)) (And.intro (And.intro @tb_isAggT_3 @tb_cellsT_3) (And.intro @tb_bsT_119_1 @tb_bsT_53_1))))
abbrev tf52 := (And.intro (And.intro (And.intro @tb_res_52 (And.intro @tb_fieldOff_80_3 @tb_isAggT_54)) (And.intro (And.intro @tb_cellsT_54 @tb_lenT_54) (And.intro @tb_indexT_54 @tb_isAggT_120))) (And.intro (And.intro @tb_cellsT_120 (And.intro @tb_lenT_120 @tb_indexT_120)) (And.intro (And.intro @tb_isAggT_2 @tb_cellsT_2) (And.intro @tb_bsT_120_1 @tb_bsT_54_1))))
abbrev tf53 := (And.intro (And.intro (And.intro @tb_res_53 (And.intro @tb_fieldOff_80_4 @tb_isAggT_55)) (And.intro (And.intro @tb_cellsT_55 @tb_lenT_55) (And.intro @tb_indexT_55 @tb_isAggT_121))) (And.intro (And.intro (And.intro @tb_cellsT_121 @tb_lenT_121) (And.intro @tb_convT_3_34 @tb_indexT_121)) (And.intro (And.intro @tb_isAggT_34 @tb_cellsT_34) (And.intro @tb_bsT_121_1 @tb_bsT_55_1))))
abbrev tf54 := (And.intro (And.intro (And.intro (And.intro @tb_res_54 @tb_fieldOff_80_5) (And.intro @tb_isAggT_56 @tb_cellsT_56)) (And.intro (And.intro @tb_lenT_56 @tb_indexT_56) (And.intro @tb_isAggT_122 (And.intro @tb_cellsT_122 @tb_lenT_122)))) (And.intro (And.intro (And.intro @tb_callable_87 @tb_buildT_124) (And.intro @tb_indexT_122 (And.intro @tb_isAggT_124 @tb_cellsT_124))) (And.intro (And.intro @tb_bsT_122_1 @tb_bsT_56_1) (And.intro @tb_zeroT_124 (And.intro @tb_eqT_124 @tb_eqS_124)))))
abbrev tf55 := (And.intro (And.intro (And.intro (And.intro @tb_res_55 @tb_fieldOff_80_6) (And.intro @tb_isAggT_57 @tb_cellsT_57)) (And.intro (And.intro @tb_lenT_57 @tb_indexT_57) (And.intro @tb_isAggT_125 (And.intro @tb_cellsT_125 @tb_lenT_125)))) (And.intro (And.intro (And.intro @tb_callable_87 @tb_buildT_127) (And.intro @tb_indexT_125 (And.intro @tb_isAggT_127 @tb_cellsT_127))) (And.intro (And.intro @tb_bsT_125_1 @tb_bsT_57_1) (And.intro @tb_zeroT_127 (And.intro @tb_eqT_127 @tb_eqS_127)))))
abbrev tf56 := (And.intro (And.intro (And.intro (And.intro @tb_res_56 @tb_fieldOff_80_7) (And.intro @tb_isAggT_58 @tb_cellsT_58)) (And.intro (And.intro @tb_lenT_58 @tb_indexT_58) (And.intro @tb_isAggT_128 (And.intro @tb_cellsT_128 @tb_lenT_128)))) (And.intro (And.intro (And.intro @tb_buildT_133 @tb_indexT_128) (And.intro @tb_isAggT_133 @tb_cellsT_133)) (And.intro (And.intro @tb_bsT_128_1 @tb_bsT_58_1) (And.intro @tb_zeroT_133 (And.intro @tb_eqT_133 @tb_eqS_133)))))
abbrev tf57 := (And.intro (And.intro (And.intro (And.intro @tb_res_57 @tb_fieldOff_80_8) (And.intro @tb_isAggT_59 @tb_cellsT_59)) (And.intro (And.intro @tb_lenT_59 @tb_indexT_59) (And.intro @tb_isAggT_134 (And.intro @tb_cellsT_134 @tb_lenT_134)))) (And.intro (And.intro (And.intro @tb_buildT_138 @tb_indexT_134) (And.intro @tb_isAggT_138 @tb_cellsT_138)) (And.intro (And.intro @tb_bsT_134_1 @tb_bsT_59_1) (And.intro @tb_zeroT_138 (And.intro @tb_eqT_138 @tb_eqS_138)))))
abbrev tf58 := (And.intro (And.intro (And.intro (And.intro @tb_res_58 @tb_fieldOff_80_9) (And.intro @tb_isAggT_60 @tb_cellsT_60)) (And.intro (And.intro @tb_lenT_60 @tb_indexT_60) (And.intro @tb_isAggT_139 (And.intro @tb_cellsT_139 @tb_lenT_139)))) (And.intro (And.intro (And.intro @tb_callable_87 @tb_buildT_141) (And.intro @tb_indexT_139 (And.intro @tb_isAggT_141 @tb_cellsT_141))) (And.intro (And.intro @tb_bsT_139_1 @tb_bsT_60_1) (And.intro @tb_zeroT_141 (And.intro @tb_eqT_141 @tb_eqS_141)))))
abbrev tf59 := (And.intro (And.intro (And.intro (And.intro @tb_res_59 @tb_fieldOff_80_10) (And.intro @tb_isAggT_61 @tb_cellsT_61)) (And.intro (And.intro @tb_lenT_61 @tb_indexT_61) (And.intro @tb_isAggT_142 (And.intro @tb_cellsT_142 @tb_lenT_142)))) (And.intro (And.intro (And.intro @tb_callable_87 @tb_buildT_144) (And.intro @tb_indexT_142 (And.intro @tb_isAggT_144 @tb_cellsT_144))) (And.intro (And.intro @tb_bsT_142_1 @tb_bsT_61_1) (And.intro @tb_zeroT_144 (And.intro @tb_eqT_144 @tb_eqS_144)))))
abbrev tf60 := (And.intro (And.intro (And.intro (And.intro @tb_res_60 @tb_fieldOff_80_11) (And.intro @tb_isAggT_62 @tb_cellsT_62)) (And.intro (And.intro @tb_lenT_62 @tb_indexT_62) (And.intro @tb_isAggT_145 (And.intro @tb_cellsT_145 @tb_lenT_145)))) (And.intro (And.intro (And.intro @tb_buildT_148 @tb_indexT_145) (And.intro @tb_isAggT_148 @tb_cellsT_148)) (And.intro (And.intro @tb_bsT_145_1 @tb_bsT_62_1) (And.intro @tb_zeroT_148 (And.intro @tb_eqT_148 @tb_eqS_148)))))
abbrev tf61 := (And.intro (And.intro (And.intro (And.intro @tb_res_61 @tb_fieldOff_80_12) (And.intro @tb_isAggT_63 @tb_cellsT_63)) (And.intro (And.intro @tb_lenT_63 @tb_indexT_63) (And.intro @tb_isAggT_149 (And.intro @tb_cellsT_149 @tb_lenT_149)))) (And.intro (And.intro (And.intro @tb_callable_87 @tb_buildT_151) (And.intro @tb_indexT_149 (And.intro @tb_isAggT_151 @tb_cellsT_151))) (And.intro (And.intro @tb_bsT_149_1 @tb_bsT_63_1) (And.intro @tb_zeroT_151 (And.intro @tb_eqT_151 @tb_eqS_151)))))
abbrev tf62 := (And.intro (And.intro (And.intro (And.intro @tb_res_62 @tb_fieldOff_80_13) (And.intro @tb_isAggT_64 @tb_cellsT_64)) (And.intro (And.intro @tb_lenT_64 @tb_indexT_64) (And.intro @tb_isAggT_152 (And.intro @tb_cellsT_152 @tb_lenT_152)))) (And.intro (And.intro (And.intro @tb_buildT_131 @tb_buildT_154) (And.intro @tb_indexT_152 @tb_isAggT_154)) (And.intro (And.intro @tb_cellsT_154 @tb_bsT_152_1) (And.intro @tb_bsT_64_1 (And.intro @tb_zeroT_154 @tb_eqT_154)))))
abbrev tf63 := (And.intro (And.intro (And.intro (And.intro @tb_res_63 @tb_fieldOff_80_14) (And.intro @tb_isAggT_65 @tb_cellsT_65)) (And.intro (And.intro @tb_lenT_65 @tb_indexT_65) (And.intro @tb_isAggT_155 (And.intro @tb_cellsT_155 @tb_lenT_155)))) (And.intro (And.intro (And.intro @tb_callable_87 @tb_buildT_158) (And.intro @tb_indexT_155 (And.intro @tb_isAggT_158 @tb_cellsT_158))) (And.intro (And.intro @tb_bsT_155_1 @tb_bsT_65_1) (And.intro @tb_zeroT_158 (And.intro @tb_eqT_158 @tb_eqS_158)))))
abbrev tf64 := (And.intro (And.intro (And.intro (And.intro @tb_res_64 @tb_fieldOff_80_15) (And.intro @tb_isAggT_66 @tb_cellsT_66)) (And.intro (And.intro @tb_lenT_66 @tb_indexT_66) (And.intro @tb_isAggT_159 @tb_cellsT_159))) (And.intro (And.intro (And.intro @tb_lenT_159 @tb_buildT_163) (And.intro @tb_indexT_159 @tb_isAggT_163)) (And.intro (And.intro @tb_cellsT_163 @tb_bsT_159_1) (And.intro @tb_bsT_66_1 (And.intro @tb_zeroT_163 @tb_eqT_163)))))
abbrev tf65 := (And.intro (And.intro (And.intro (And.intro @tb_res_65 @tb_fieldOff_80_16) (And.intro @tb_isAggT_67 @tb_cellsT_67)) (And.intro (And.intro @tb_lenT_67 @tb_indexT_67) (And.intro @tb_isAggT_164 (And.intro @tb_cellsT_164 @tb_lenT_164)))) (And.intro (And.intro (And.intro @tb_callable_87 @tb_buildT_166) (And.intro @tb_indexT_164 (And.intro @tb_isAggT_166 @tb_cellsT_166))) (And.intro (And.intro @tb_bsT_164_1 @tb_bsT_67_1) (And.intro @tb_zeroT_166 (And.intro @tb_eqT_166 @tb_eqS_166)))))
abbrev tf66 := (And.intro (And.intro (And.intro (And.intro @tb_res_66 @tb_fieldOff_80_17) (And.intro @tb_isAggT_68 (And.intro @tb_cellsT_68 @tb_lenT_68))) (And.intro (And.intro @tb_indexT_68 @tb_isAggT_167) (And.intro @tb_cellsT_167 (And.intro @tb_lenT_167 @tb_callable_87)))) (And.intro (And.intro (And.intro @tb_buildT_169 @tb_indexT_167) (And.intro @tb_isAggT_169 (And.intro @tb_cellsT_169 @tb_bsT_167_1))) (And.intro (And.intro @tb_bsT_68_1 @tb_zeroT_169) (And.intro @tb_fieldOff_169_0 (And.intro @tb_isAggT_9 @tb_cellsT_9)))))
abbrev tf67 := (And.intro (And.intro (And.intro (And.intro @tb_res_67 @tb_fieldOff_80_18) (And.intro @tb_isAggT_69 (And.intro @tb_cellsT_69 @tb_lenT_69))) (And.intro (And.intro @tb_indexT_69 @tb_isAggT_170) (And.intro @tb_cellsT_170 (And.intro @tb_lenT_170 @tb_buildT_133)))) (And.intro (And.intro (And.intro @tb_buildT_174 @tb_indexT_170) (And.intro @tb_isAggT_174 (And.intro @tb_cellsT_174 @tb_bsT_170_1))) (And.intro (And.intro @tb_bsT_69_1 (And.intro @tb_zeroT_174 @tb_fieldOff_174_1)) (And.intro @tb_fieldOff_133_0 (And.intro @tb_isAggT_2 @tb_cellsT_2)))))
abbrev tf68 := (And.intro (And.intro (And.intro (And.intro @tb_res_68 @tb_fieldOff_80_19) (And.intro @tb_isAggT_70 @tb_cellsT_70)) (And.intro (And.intro @tb_lenT_70 @tb_indexT_70) (And.intro @tb_isAggT_175 (And.intro @tb_cellsT_175 @tb_lenT_175)))) (And.intro (And.intro (And.intro @tb_buildT_177 @tb_indexT_175) (And.intro @tb_isAggT_177 (And.intro @tb_cellsT_177 @tb_bsT_175_1))) (And.intro (And.intro @tb_bsT_70_1 @tb_zeroT_177) (And.intro @tb_fieldOff_177_1 (And.intro @tb_isAggT_2 @tb_cellsT_2)))))
abbrev tf69 := (And.intro (And.intro (And.intro (And.intro @tb_res_69 @tb_fieldOff_80_20) (And.intro @tb_isAggT_71 (And.intro @tb_cellsT_71 @tb_lenT_71))) (And.intro (And.intro @tb_indexT_71 @tb_isAggT_178) (And.intro @tb_cellsT_178 (And.intro @tb_lenT_178 @tb_callable_87)))) (And.intro (And.intro (And.intro @tb_buildT_172 @tb_indexT_178) (And.intro @tb_isAggT_172 (And.intro @tb_cellsT_172 @tb_bsT_178_1))) (And.intro (And.intro @tb_bsT_71_1 @tb_zeroT_172) (And.intro @tb_fieldOff_172_0 (And.intro @tb_isAggT_9 @tb_cellsT_9)))))
abbrev tf70 := (And.intro (And.intro (And.intro (And.intro @tb_res_70 @tb_fieldOff_80_21) (And.intro @tb_isAggT_72 @tb_cellsT_72)) (And.intro (And.intro @tb_lenT_72 @tb_indexT_72) (And.intro @tb_isAggT_179 (And.intro @tb_cellsT_179 @tb_lenT_179)))) (And.intro (And.intro (And.intro @tb_buildT_181 @tb_indexT_179) (And.intro @tb_isAggT_181 (And.intro @tb_cellsT_181 @tb_bsT_179_1))) (And.intro (And.intro @tb_bsT_72_1 @tb_zeroT_181) (And.intro @tb_fieldOff_181_2 (And.intro @tb_isAggT_3 @tb_cellsT_3)))))
abbrev tf71 := (And.intro (And.intro (And.intro (And.intro @tb_res_71 @tb_fieldOff_80_22) (And.intro @tb_isAggT_73 (And.intro @tb_cellsT_73 @tb_lenT_73))) (And.intro (And.intro @tb_indexT_73 @tb_isAggT_182) (And.intro @tb_cellsT_182 (And.intro @tb_lenT_182 @tb_callable_87)))) (And.intro (And.intro (And.intro @tb_buildT_184 @tb_indexT_182) (And.intro @tb_isAggT_184 (And.intro @tb_cellsT_184 @tb_bsT_182_1))) (And.intro (And.intro @tb_bsT_73_1 @tb_zeroT_184) (And.intro @tb_fieldOff_184_0 (And.intro @tb_isAggT_9 @tb_cellsT_9)))))
abbrev tf72 := (And.intro (And.intro (And.intro (And.intro @tb_res_72 @tb_fieldOff_80_23) (And.intro @tb_isAggT_74 (And.intro @tb_cellsT_74 @tb_lenT_74))) (And.intro (And.intro @tb_indexT_74 @tb_isAggT_185) (And.intro @tb_cellsT_185 (And.intro @tb_lenT_185 @tb_callable_87)))) (And.intro (And.intro (And.intro @tb_buildT_187 @tb_indexT_185) (And.intro @tb_isAggT_187 (And.intro @tb_cellsT_187 @tb_bsT_185_1))) (And.intro (And.intro @tb_bsT_74_1 @tb_zeroT_187) (And.intro @tb_fieldOff_187_0 (And.intro @tb_isAggT_9 @tb_cellsT_9)))))
abbrev tf73 := (And.intro (And.intro (And.intro (And.intro @tb_res_73 @tb_fieldOff_80_24) (And.intro @tb_isAggT_75 (And.intro @tb_cellsT_75 @tb_lenT_75))) (And.intro (And.intro @tb_indexT_75 @tb_isAggT_52) (And.intro @tb_cellsT_52 (And.intro @tb_lenT_52 @tb_callable_87)))) (And.intro (And.intro (And.intro @tb_bsT_118_1 @tb_indexT_52) (And.intro @tb_isAggT_118 (And.intro @tb_cellsT_118 @tb_bsT_52_1))) (And.intro (And.intro @tb_bsT_75_1 @tb_lenT_118) (And.intro @tb_indexT_118 (And.intro @tb_isAggT_9 @tb_cellsT_9)))))
abbrev tf74 := (And.intro (And.intro (And.intro (And.intro @tb_res_74 @tb_fieldOff_80_25) (And.intro @tb_isAggT_76 @tb_cellsT_76)) (And.intro (And.intro @tb_lenT_76 @tb_indexT_76) (And.intro @tb_isAggT_188 (And.intro @tb_cellsT_188 @tb_lenT_188)))) (And.intro (And.intro (And.intro @tb_buildT_190 @tb_indexT_188) (And.intro @tb_isAggT_190 (And.intro @tb_cellsT_190 @tb_bsT_188_1))) (And.intro (And.intro @tb_bsT_76_1 @tb_zeroT_190) (And.intro @tb_fieldOff_190_0 (And.intro @tb_isAggT_2 @tb_cellsT_2)))))
abbrev tf75 := (And.intro (And.intro (And.intro (And.intro @tb_res_75 @tb_fieldOff_80_26) (And.intro @tb_isAggT_77 (And.intro @tb_cellsT_77 @tb_lenT_77))) (And.intro (And.intro @tb_indexT_77 @tb_isAggT_191) (And.intro @tb_cellsT_191 (And.intro @tb_lenT_191 @tb_buildT_190)))) (And.intro (And.intro (And.intro @tb_buildT_193 @tb_indexT_191) (And.intro @tb_isAggT_193 (And.intro @tb_cellsT_193 @tb_bsT_191_1))) (And.intro (And.intro @tb_bsT_77_1 (And.intro @tb_zeroT_193 @tb_fieldOff_193_0)) (And.intro @tb_fieldOff_190_0 (And.intro @tb_isAggT_2 @tb_cellsT_2)))))
abbrev tf76 := (And.intro (And.intro (And.intro (And.intro @tb_res_76 @tb_fieldOff_80_27) (And.intro @tb_isAggT_78 (And.intro @tb_cellsT_78 @tb_lenT_78))) (And.intro (And.intro @tb_indexT_78 @tb_isAggT_194) (And.intro @tb_cellsT_194 (And.intro @tb_lenT_194 @tb_callable_87)))) (And.intro (And.intro (And.intro @tb_buildT_196 @tb_indexT_194) (And.intro @tb_isAggT_196 (And.intro @tb_cellsT_196 @tb_bsT_194_1))) (And.intro (And.intro @tb_bsT_78_1 @tb_zeroT_196) (And.intro @tb_fieldOff_196_0 (And.intro @tb_isAggT_9 @tb_cellsT_9)))))
abbrev tf77 := (And.intro (And.intro (And.intro @tb_res_77 (And.intro @tb_callable_86 @tb_callable_79)) (And.intro (And.intro @tb_fieldOff_112_0 @tb_fieldOff_110_0) (And.intro @tb_isAggT_22 @tb_cellsT_22))) (And.intro (And.intro (And.intro @tb_lenT_22 @tb_callable_81) (And.intro @tb_callable_80 @tb_fieldOff_110_1)) (And.intro (And.intro @tb_isAggT_3 @tb_cellsT_3) (And.intro @tb_fieldOff_110_2 @tb_indexT_22))))
abbrev tf78 := (And.intro (And.intro (And.intro (And.intro @tb_res_78 @tb_callable_86) (And.intro @tb_fieldOff_112_0 @tb_fieldOff_110_1)) (And.intro (And.intro @tb_isAggT_3 @tb_cellsT_3) (And.intro @tb_fieldOff_110_0 @tb_isAggT_22))) (And.intro (And.intro (And.intro @tb_cellsT_22 @tb_lenT_22) (And.intro @tb_callable_81 @tb_callable_80)) (And.intro (And.intro @tb_indexT_22 @tb_isAggT_5) (And.intro @tb_cellsT_5 (And.intro @tb_convT_5_34 @tb_fieldOff_110_2)))))
abbrev tf79 := (And.intro (And.intro @tb_res_79 @tb_eqT_82) (And.intro @tb_fieldOff_112_0 @tb_callable_88))
abbrev tf80 := (And.intro (And.intro @tb_res_80 (And.intro @tb_eqT_82 @tb_fieldOff_112_1)) (And.intro @tb_isAggT_45 (And.intro @tb_cellsT_45 @tb_eqT_45)))
abbrev tf81 := (And.intro (And.intro @tb_res_81 @tb_ifaceT_105) (And.intro @tb_buildT_198 @tb_ifaceT_198))
abbrev tf82 := (And.intro (And.intro @tb_res_82 (And.intro @tb_eqT_82 @tb_callable_45)) (And.intro @tb_fieldOff_112_1 (And.intro @tb_isAggT_45 @tb_cellsT_45)))
abbrev tf83 := (And.intro (And.intro (And.intro @tb_res_83 @tb_fieldOff_110_2) (And.intro @tb_isAggT_3 (And.intro @tb_cellsT_3 @tb_fieldOff_110_0))) (And.intro (And.intro @tb_isAggT_22 (And.intro @tb_cellsT_22 @tb_fieldOff_110_1)) (And.intro @tb_indexT_22 (And.intro @tb_isAggT_5 @tb_cellsT_5))))
abbrev tf84 := (And.intro @tb_res_84 @tb_convT_2_34)
abbrev tf85 := @tb_res_85
abbrev tf86 := (And.intro (And.intro (And.intro @tb_res_86 (And.intro @tb_eqT_82 @tb_fieldOff_112_1)) (And.intro @tb_isAggT_45 (And.intro @tb_cellsT_45 @tb_eqT_45))) (And.intro (And.intro @tb_fieldOff_112_0 (And.intro @tb_callable_83 @tb_fieldOff_110_1)) (And.intro (And.intro @tb_isAggT_3 @tb_cellsT_3) (And.intro @tb_callable_81 @tb_callable_80))))
abbrev tf87 := (And.intro (And.intro @tb_res_87 @tb_convT_3_5) (And.intro @tb_bsT_22_3 @tb_convT_22_9))
abbrev tf88 := (And.intro (And.intro (And.intro @tb_res_88 @tb_eqT_199) (And.intro @tb_fieldOff_110_0 @tb_isAggT_22)) (And.intro (And.intro @tb_cellsT_22 @tb_lenT_22) (And.intro @tb_fieldOff_110_1 (And.intro @tb_isAggT_3 @tb_cellsT_3))))
end Go.Proofs.Ytcjlhfmjcioeeaa
