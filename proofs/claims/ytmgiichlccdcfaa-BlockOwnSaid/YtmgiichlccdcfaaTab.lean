/- Closed facts on the tables of the program, each by the kernel: written by a program. -/
import Derived.Test.YtmgiichlccdcfaaDen
import Derived.Test.YtmgiichlccdcfaaProg
import Derived.KernelRfl
set_option maxRecDepth 100000
namespace Go.Proofs.Ytmgiichlccdcfaa
open Go
theorem mixed : Try.prog.follows .mixedOrders = true := by kernel_rfl
theorem tb_bsT_129_4 : bsT Try.prog 129 4 = some (132, 5, #[.int .i64 0, .int .i64 0, .int .i64 0, .int .i64 0, .int .i64 0, .int .i64 0, .int .i64 0, .int .i64 0, .int .i64 0, .int .i64 0, .int .i64 0, .int .i64 0, .int .i64 0, .int .i64 0, .int .i64 0, .int .i64 0, .int .i64 0, .int .i64 0, .int .i64 0, .int .i64 0]) := by kernel_rfl
theorem tb_bsT_135_1 : bsT Try.prog 135 1 = some (9, 1, #[.string ByteArray.empty]) := by kernel_rfl
theorem tb_bsT_137_1 : bsT Try.prog 137 1 = some (3, 1, #[.int .i64 0]) := by kernel_rfl
theorem tb_bsT_138_1 : bsT Try.prog 138 1 = some (102, 1, #[.int .u64 0]) := by kernel_rfl
theorem tb_bsT_139_1 : bsT Try.prog 139 1 = some (141, 2, #[.string ByteArray.empty, .string ByteArray.empty]) := by kernel_rfl
theorem tb_bsT_142_1 : bsT Try.prog 142 1 = some (144, 2, #[.string ByteArray.empty, .int .i64 0]) := by kernel_rfl
theorem tb_bsT_145_1 : bsT Try.prog 145 1 = some (149, 6, #[.int .u8 0, .int .u8 0, .string ByteArray.empty, .int .i64 0, .int .i64 0, .int .i64 0]) := by kernel_rfl
theorem tb_bsT_150_1 : bsT Try.prog 150 1 = some (152, 2, #[.string ByteArray.empty, .int .i64 0]) := by kernel_rfl
theorem tb_bsT_153_1 : bsT Try.prog 153 1 = some (155, 2, #[.int .u8 0, .string ByteArray.empty]) := by kernel_rfl
theorem tb_bsT_156_1 : bsT Try.prog 156 1 = some (159, 3, #[.int .u8 0, .int .i64 0, .int .i64 0]) := by kernel_rfl
theorem tb_bsT_160_1 : bsT Try.prog 160 1 = some (162, 2, #[.int .i64 0, .string ByteArray.empty]) := by kernel_rfl
theorem tb_bsT_163_1 : bsT Try.prog 163 1 = some (165, 3, #[.bool false, .int .u8 0, .int .i64 0]) := by kernel_rfl
theorem tb_bsT_166_1 : bsT Try.prog 166 1 = some (169, 4, #[.int .u8 0, .string ByteArray.empty, .int .i64 0, .int .i64 0]) := by kernel_rfl
theorem tb_bsT_170_1 : bsT Try.prog 170 1 = some (174, 4, #[.bool false, .int .i64 0, .int .i64 0, .int .u64 0]) := by kernel_rfl
theorem tb_bsT_175_1 : bsT Try.prog 175 1 = some (177, 2, #[.string ByteArray.empty, .int .i64 0]) := by kernel_rfl
theorem tb_bsT_178_1 : bsT Try.prog 178 1 = some (180, 4, #[.string ByteArray.empty, .slice none 0 0, .slice none 0 0, .int .i64 0]) := by kernel_rfl
theorem tb_bsT_181_1 : bsT Try.prog 181 1 = some (185, 6, #[.string ByteArray.empty, .slice none 0 0, .string ByteArray.empty, .int .i64 0, .int .u8 0, .int .i64 0]) := by kernel_rfl
theorem tb_bsT_186_1 : bsT Try.prog 186 1 = some (188, 10, #[.string ByteArray.empty, .slice none 0 0, .string ByteArray.empty, .int .i64 0, .bool false, .bool false, .int .u8 0, .int .i64 0, .int .u8 0, .int .i64 0]) := by kernel_rfl
theorem tb_bsT_189_1 : bsT Try.prog 189 1 = some (183, 3, #[.string ByteArray.empty, .slice none 0 0, .string ByteArray.empty]) := by kernel_rfl
theorem tb_bsT_190_1 : bsT Try.prog 190 1 = some (192, 4, #[.slice none 0 0, .string ByteArray.empty, .int .i64 0, .int .i64 0]) := by kernel_rfl
theorem tb_bsT_193_1 : bsT Try.prog 193 1 = some (195, 3, #[.string ByteArray.empty, .slice none 0 0, .slice none 0 0]) := by kernel_rfl
theorem tb_bsT_196_1 : bsT Try.prog 196 1 = some (198, 2, #[.string ByteArray.empty, .slice none 0 0]) := by kernel_rfl
theorem tb_bsT_199_1 : bsT Try.prog 199 1 = some (201, 2, #[.int .i64 0, .slice none 0 0]) := by kernel_rfl
theorem tb_bsT_202_1 : bsT Try.prog 202 1 = some (204, 3, #[.int .i64 0, .slice none 0 0, .slice none 0 0]) := by kernel_rfl
theorem tb_bsT_205_1 : bsT Try.prog 205 1 = some (207, 3, #[.string ByteArray.empty, .slice none 0 0, .slice none 0 0]) := by kernel_rfl
theorem tb_bsT_23_1 : bsT Try.prog 23 1 = some (28, 3, #[.int .i64 0, .int .u8 0, .int .i64 0]) := by kernel_rfl
theorem tb_bsT_29_0 : bsT Try.prog 29 0 = some (5, 1, #[]) := by kernel_rfl
theorem tb_bsT_29_1 : bsT Try.prog 29 1 = some (5, 1, #[.int .u8 0]) := by kernel_rfl
theorem tb_bsT_29_3 : bsT Try.prog 29 3 = some (5, 1, #[.int .u8 0, .int .u8 0, .int .u8 0]) := by kernel_rfl
theorem tb_bsT_29_5 : bsT Try.prog 29 5 = some (5, 1, #[.int .u8 0, .int .u8 0, .int .u8 0, .int .u8 0, .int .u8 0]) := by kernel_rfl
theorem tb_bsT_47_1 : bsT Try.prog 47 1 = some (29, 1, #[.slice none 0 0]) := by kernel_rfl
theorem tb_bsT_48_1 : bsT Try.prog 48 1 = some (135, 1, #[.slice none 0 0]) := by kernel_rfl
theorem tb_bsT_49_1 : bsT Try.prog 49 1 = some (137, 1, #[.slice none 0 0]) := by kernel_rfl
theorem tb_bsT_50_1 : bsT Try.prog 50 1 = some (77, 1, #[.slice none 0 0]) := by kernel_rfl
theorem tb_bsT_51_1 : bsT Try.prog 51 1 = some (138, 1, #[.slice none 0 0]) := by kernel_rfl
theorem tb_bsT_52_1 : bsT Try.prog 52 1 = some (139, 1, #[.slice none 0 0]) := by kernel_rfl
theorem tb_bsT_53_1 : bsT Try.prog 53 1 = some (142, 1, #[.slice none 0 0]) := by kernel_rfl
theorem tb_bsT_54_1 : bsT Try.prog 54 1 = some (23, 1, #[.slice none 0 0]) := by kernel_rfl
theorem tb_bsT_55_1 : bsT Try.prog 55 1 = some (145, 1, #[.slice none 0 0]) := by kernel_rfl
theorem tb_bsT_56_1 : bsT Try.prog 56 1 = some (150, 1, #[.slice none 0 0]) := by kernel_rfl
theorem tb_bsT_57_1 : bsT Try.prog 57 1 = some (153, 1, #[.slice none 0 0]) := by kernel_rfl
theorem tb_bsT_58_1 : bsT Try.prog 58 1 = some (156, 1, #[.slice none 0 0]) := by kernel_rfl
theorem tb_bsT_59_1 : bsT Try.prog 59 1 = some (160, 1, #[.slice none 0 0]) := by kernel_rfl
theorem tb_bsT_60_1 : bsT Try.prog 60 1 = some (163, 1, #[.slice none 0 0]) := by kernel_rfl
theorem tb_bsT_61_1 : bsT Try.prog 61 1 = some (166, 1, #[.slice none 0 0]) := by kernel_rfl
theorem tb_bsT_62_1 : bsT Try.prog 62 1 = some (170, 1, #[.slice none 0 0]) := by kernel_rfl
theorem tb_bsT_63_1 : bsT Try.prog 63 1 = some (175, 1, #[.slice none 0 0]) := by kernel_rfl
theorem tb_bsT_64_1 : bsT Try.prog 64 1 = some (178, 1, #[.slice none 0 0]) := by kernel_rfl
theorem tb_bsT_65_1 : bsT Try.prog 65 1 = some (181, 1, #[.slice none 0 0]) := by kernel_rfl
theorem tb_bsT_66_1 : bsT Try.prog 66 1 = some (186, 1, #[.slice none 0 0]) := by kernel_rfl
theorem tb_bsT_67_1 : bsT Try.prog 67 1 = some (189, 1, #[.slice none 0 0]) := by kernel_rfl
theorem tb_bsT_68_1 : bsT Try.prog 68 1 = some (190, 1, #[.slice none 0 0]) := by kernel_rfl
theorem tb_bsT_69_1 : bsT Try.prog 69 1 = some (193, 1, #[.slice none 0 0]) := by kernel_rfl
theorem tb_bsT_70_1 : bsT Try.prog 70 1 = some (196, 1, #[.slice none 0 0]) := by kernel_rfl
theorem tb_bsT_71_1 : bsT Try.prog 71 1 = some (48, 1, #[.slice none 0 0]) := by kernel_rfl
theorem tb_bsT_72_1 : bsT Try.prog 72 1 = some (199, 1, #[.slice none 0 0]) := by kernel_rfl
theorem tb_bsT_73_1 : bsT Try.prog 73 1 = some (202, 1, #[.slice none 0 0]) := by kernel_rfl
theorem tb_bsT_74_1 : bsT Try.prog 74 1 = some (205, 1, #[.slice none 0 0]) := by kernel_rfl
theorem tb_bsT_77_1 : bsT Try.prog 77 1 = some (2, 1, #[.int .i64 0]) := by kernel_rfl
theorem tb_bsT_77_3 : bsT Try.prog 77 3 = some (2, 1, #[.int .i64 0, .int .i64 0, .int .i64 0]) := by kernel_rfl
theorem tb_bsT_78_1 : bsT Try.prog 78 1 = some (26, 2, #[.int .u8 0, .int .i64 0]) := by kernel_rfl
theorem tb_buildT_122 : buildT Try.prog 122 = some (#[.slice none 0 0, .int .i64 0, .int .i64 0], [(0, 1), (1, 1), (2, 1)]) := by kernel_rfl
theorem tb_buildT_124 : buildT Try.prog 124 = some (#[.slice none 0 0, .int .i64 0, .int .i64 0, .nilIface], [(0, 3), (3, 1)]) := by kernel_rfl
theorem tb_buildT_132 : buildT Try.prog 132 = some (#[.int .i64 0, .int .i64 0, .int .i64 0, .int .i64 0, .int .i64 0], [(0, 1), (1, 1), (2, 1), (3, 1), (4, 1)]) := by kernel_rfl
theorem tb_buildT_141 : buildT Try.prog 141 = some (#[.string ByteArray.empty, .string ByteArray.empty], [(0, 1), (1, 1)]) := by kernel_rfl
theorem tb_buildT_144 : buildT Try.prog 144 = some (#[.string ByteArray.empty, .int .i64 0], [(0, 1), (1, 1)]) := by kernel_rfl
theorem tb_buildT_149 : buildT Try.prog 149 = some (#[.int .u8 0, .int .u8 0, .string ByteArray.empty, .int .i64 0, .int .i64 0, .int .i64 0], [(0, 1), (1, 1), (2, 1), (3, 1), (4, 1), (5, 1)]) := by kernel_rfl
theorem tb_buildT_152 : buildT Try.prog 152 = some (#[.string ByteArray.empty, .int .i64 0], [(0, 1), (1, 1)]) := by kernel_rfl
theorem tb_buildT_155 : buildT Try.prog 155 = some (#[.int .u8 0, .string ByteArray.empty], [(0, 1), (1, 1)]) := by kernel_rfl
theorem tb_buildT_159 : buildT Try.prog 159 = some (#[.int .u8 0, .int .i64 0, .int .i64 0], [(0, 1), (1, 1), (2, 1)]) := by kernel_rfl
theorem tb_buildT_162 : buildT Try.prog 162 = some (#[.int .i64 0, .string ByteArray.empty], [(0, 1), (1, 1)]) := by kernel_rfl
theorem tb_buildT_165 : buildT Try.prog 165 = some (#[.bool false, .int .u8 0, .int .i64 0], [(0, 1), (1, 2)]) := by kernel_rfl
theorem tb_buildT_169 : buildT Try.prog 169 = some (#[.int .u8 0, .string ByteArray.empty, .int .i64 0, .int .i64 0], [(0, 1), (1, 1), (2, 1), (3, 1)]) := by kernel_rfl
theorem tb_buildT_174 : buildT Try.prog 174 = some (#[.bool false, .int .i64 0, .int .i64 0, .int .u64 0], [(0, 1), (1, 1), (2, 2)]) := by kernel_rfl
theorem tb_buildT_177 : buildT Try.prog 177 = some (#[.string ByteArray.empty, .int .i64 0], [(0, 1), (1, 1)]) := by kernel_rfl
theorem tb_buildT_180 : buildT Try.prog 180 = some (#[.string ByteArray.empty, .slice none 0 0, .slice none 0 0, .int .i64 0], [(0, 1), (1, 1), (2, 1), (3, 1)]) := by kernel_rfl
theorem tb_buildT_183 : buildT Try.prog 183 = some (#[.string ByteArray.empty, .slice none 0 0, .string ByteArray.empty], [(0, 1), (1, 1), (2, 1)]) := by kernel_rfl
theorem tb_buildT_185 : buildT Try.prog 185 = some (#[.string ByteArray.empty, .slice none 0 0, .string ByteArray.empty, .int .i64 0, .int .u8 0, .int .i64 0], [(0, 3), (3, 3)]) := by kernel_rfl
theorem tb_buildT_188 : buildT Try.prog 188 = some (#[.string ByteArray.empty, .slice none 0 0, .string ByteArray.empty, .int .i64 0, .bool false, .bool false, .int .u8 0, .int .i64 0, .int .u8 0, .int .i64 0], [(0, 3), (3, 1), (4, 1), (5, 1), (6, 2), (8, 2)]) := by kernel_rfl
theorem tb_buildT_192 : buildT Try.prog 192 = some (#[.slice none 0 0, .string ByteArray.empty, .int .i64 0, .int .i64 0], [(0, 1), (1, 2), (3, 1)]) := by kernel_rfl
theorem tb_buildT_195 : buildT Try.prog 195 = some (#[.string ByteArray.empty, .slice none 0 0, .slice none 0 0], [(0, 1), (1, 1), (2, 1)]) := by kernel_rfl
theorem tb_buildT_198 : buildT Try.prog 198 = some (#[.string ByteArray.empty, .slice none 0 0], [(0, 1), (1, 1)]) := by kernel_rfl
theorem tb_buildT_201 : buildT Try.prog 201 = some (#[.int .i64 0, .slice none 0 0], [(0, 1), (1, 1)]) := by kernel_rfl
theorem tb_buildT_204 : buildT Try.prog 204 = some (#[.int .i64 0, .slice none 0 0, .slice none 0 0], [(0, 2), (2, 1)]) := by kernel_rfl
theorem tb_buildT_207 : buildT Try.prog 207 = some (#[.string ByteArray.empty, .slice none 0 0, .slice none 0 0], [(0, 1), (1, 1), (2, 1)]) := by kernel_rfl
theorem tb_buildT_212 : buildT Try.prog 212 = some (#[.int .i64 0, .nilIface], [(0, 1), (1, 1)]) := by kernel_rfl
theorem tb_buildT_26 : buildT Try.prog 26 = some (#[.int .u8 0, .int .i64 0], [(0, 1), (1, 1)]) := by kernel_rfl
theorem tb_buildT_28 : buildT Try.prog 28 = some (#[.int .i64 0, .int .u8 0, .int .i64 0], [(0, 1), (1, 2)]) := by kernel_rfl
theorem tb_buildT_37 : buildT Try.prog 37 = some (#[.int .i64 0, .int .i64 0, .int .i64 0, .bool false, .bool false], [(0, 1), (1, 1), (2, 1), (3, 1), (4, 1)]) := by kernel_rfl
theorem tb_buildT_76 : buildT Try.prog 76 = some (#[.slice none 0 0, .slice none 0 0, .slice none 0 0, .slice none 0 0, .slice none 0 0, .slice none 0 0, .slice none 0 0, .slice none 0 0, .slice none 0 0, .slice none 0 0, .slice none 0 0, .slice none 0 0, .slice none 0 0, .slice none 0 0, .slice none 0 0, .slice none 0 0, .slice none 0 0, .slice none 0 0, .slice none 0 0, .slice none 0 0, .slice none 0 0, .slice none 0 0, .slice none 0 0, .slice none 0 0, .slice none 0 0, .slice none 0 0, .slice none 0 0, .slice none 0 0], [(0, 1), (1, 1), (2, 1), (3, 1), (4, 1), (5, 1), (6, 1), (7, 1), (8, 1), (9, 1), (10, 1), (11, 1), (12, 1), (13, 1), (14, 1), (15, 1), (16, 1), (17, 1), (18, 1), (19, 1), (20, 1), (21, 1), (22, 1), (23, 1), (24, 1), (25, 1), (26, 1), (27, 1)]) := by kernel_rfl
theorem tb_buildT_93 : buildT Try.prog 93 = some (#[.slice none 0 0, .int .i64 0], [(0, 1), (1, 1)]) := by kernel_rfl
theorem tb_callable_1 : callable Try.prog 1 = false := by kernel_rfl
theorem tb_callable_10 : callable Try.prog 10 = true := by kernel_rfl
theorem tb_callable_11 : callable Try.prog 11 = true := by kernel_rfl
theorem tb_callable_12 : callable Try.prog 12 = true := by kernel_rfl
theorem tb_callable_13 : callable Try.prog 13 = true := by kernel_rfl
theorem tb_callable_14 : callable Try.prog 14 = true := by kernel_rfl
theorem tb_callable_15 : callable Try.prog 15 = true := by kernel_rfl
theorem tb_callable_16 : callable Try.prog 16 = true := by kernel_rfl
theorem tb_callable_17 : callable Try.prog 17 = true := by kernel_rfl
theorem tb_callable_18 : callable Try.prog 18 = true := by kernel_rfl
theorem tb_callable_19 : callable Try.prog 19 = true := by kernel_rfl
theorem tb_callable_2 : callable Try.prog 2 = true := by kernel_rfl
theorem tb_callable_20 : callable Try.prog 20 = true := by kernel_rfl
theorem tb_callable_21 : callable Try.prog 21 = true := by kernel_rfl
theorem tb_callable_22 : callable Try.prog 22 = true := by kernel_rfl
theorem tb_callable_23 : callable Try.prog 23 = true := by kernel_rfl
theorem tb_callable_24 : callable Try.prog 24 = true := by kernel_rfl
theorem tb_callable_25 : callable Try.prog 25 = true := by kernel_rfl
theorem tb_callable_26 : callable Try.prog 26 = true := by kernel_rfl
theorem tb_callable_27 : callable Try.prog 27 = true := by kernel_rfl
theorem tb_callable_28 : callable Try.prog 28 = true := by kernel_rfl
theorem tb_callable_29 : callable Try.prog 29 = true := by kernel_rfl
theorem tb_callable_3 : callable Try.prog 3 = true := by kernel_rfl
theorem tb_callable_30 : callable Try.prog 30 = true := by kernel_rfl
theorem tb_callable_31 : callable Try.prog 31 = true := by kernel_rfl
theorem tb_callable_32 : callable Try.prog 32 = true := by kernel_rfl
theorem tb_callable_33 : callable Try.prog 33 = true := by kernel_rfl
theorem tb_callable_34 : callable Try.prog 34 = true := by kernel_rfl
theorem tb_callable_35 : callable Try.prog 35 = true := by kernel_rfl
theorem tb_callable_36 : callable Try.prog 36 = true := by kernel_rfl
theorem tb_callable_37 : callable Try.prog 37 = true := by kernel_rfl
theorem tb_callable_38 : callable Try.prog 38 = true := by kernel_rfl
theorem tb_callable_39 : callable Try.prog 39 = true := by kernel_rfl
theorem tb_callable_4 : callable Try.prog 4 = true := by kernel_rfl
theorem tb_callable_40 : callable Try.prog 40 = true := by kernel_rfl
theorem tb_callable_41 : callable Try.prog 41 = true := by kernel_rfl
theorem tb_callable_42 : callable Try.prog 42 = true := by kernel_rfl
theorem tb_callable_43 : callable Try.prog 43 = true := by kernel_rfl
theorem tb_callable_44 : callable Try.prog 44 = true := by kernel_rfl
theorem tb_callable_45 : callable Try.prog 45 = true := by kernel_rfl
theorem tb_callable_46 : callable Try.prog 46 = true := by kernel_rfl
theorem tb_callable_47 : callable Try.prog 47 = true := by kernel_rfl
theorem tb_callable_48 : callable Try.prog 48 = true := by kernel_rfl
theorem tb_callable_49 : callable Try.prog 49 = true := by kernel_rfl
theorem tb_callable_5 : callable Try.prog 5 = true := by kernel_rfl
theorem tb_callable_50 : callable Try.prog 50 = true := by kernel_rfl
theorem tb_callable_51 : callable Try.prog 51 = true := by kernel_rfl
theorem tb_callable_52 : callable Try.prog 52 = true := by kernel_rfl
theorem tb_callable_53 : callable Try.prog 53 = true := by kernel_rfl
theorem tb_callable_54 : callable Try.prog 54 = true := by kernel_rfl
theorem tb_callable_55 : callable Try.prog 55 = true := by kernel_rfl
theorem tb_callable_56 : callable Try.prog 56 = true := by kernel_rfl
theorem tb_callable_57 : callable Try.prog 57 = true := by kernel_rfl
theorem tb_callable_58 : callable Try.prog 58 = true := by kernel_rfl
theorem tb_callable_59 : callable Try.prog 59 = true := by kernel_rfl
theorem tb_callable_6 : callable Try.prog 6 = true := by kernel_rfl
theorem tb_callable_60 : callable Try.prog 60 = true := by kernel_rfl
theorem tb_callable_61 : callable Try.prog 61 = true := by kernel_rfl
theorem tb_callable_62 : callable Try.prog 62 = true := by kernel_rfl
theorem tb_callable_63 : callable Try.prog 63 = true := by kernel_rfl
theorem tb_callable_64 : callable Try.prog 64 = true := by kernel_rfl
theorem tb_callable_65 : callable Try.prog 65 = true := by kernel_rfl
theorem tb_callable_66 : callable Try.prog 66 = true := by kernel_rfl
theorem tb_callable_67 : callable Try.prog 67 = true := by kernel_rfl
theorem tb_callable_68 : callable Try.prog 68 = true := by kernel_rfl
theorem tb_callable_69 : callable Try.prog 69 = true := by kernel_rfl
theorem tb_callable_7 : callable Try.prog 7 = true := by kernel_rfl
theorem tb_callable_70 : callable Try.prog 70 = true := by kernel_rfl
theorem tb_callable_71 : callable Try.prog 71 = true := by kernel_rfl
theorem tb_callable_72 : callable Try.prog 72 = true := by kernel_rfl
theorem tb_callable_73 : callable Try.prog 73 = true := by kernel_rfl
theorem tb_callable_74 : callable Try.prog 74 = true := by kernel_rfl
theorem tb_callable_75 : callable Try.prog 75 = true := by kernel_rfl
theorem tb_callable_76 : callable Try.prog 76 = true := by kernel_rfl
theorem tb_callable_77 : callable Try.prog 77 = true := by kernel_rfl
theorem tb_callable_78 : callable Try.prog 78 = true := by kernel_rfl
theorem tb_callable_79 : callable Try.prog 79 = true := by kernel_rfl
theorem tb_callable_8 : callable Try.prog 8 = true := by kernel_rfl
theorem tb_callable_80 : callable Try.prog 80 = true := by kernel_rfl
theorem tb_callable_81 : callable Try.prog 81 = true := by kernel_rfl
theorem tb_callable_82 : callable Try.prog 82 = true := by kernel_rfl
theorem tb_callable_83 : callable Try.prog 83 = true := by kernel_rfl
theorem tb_callable_84 : callable Try.prog 84 = true := by kernel_rfl
theorem tb_callable_85 : callable Try.prog 85 = true := by kernel_rfl
theorem tb_callable_86 : callable Try.prog 86 = true := by kernel_rfl
theorem tb_callable_87 : callable Try.prog 87 = true := by kernel_rfl
theorem tb_callable_88 : callable Try.prog 88 = true := by kernel_rfl
theorem tb_callable_89 : callable Try.prog 89 = true := by kernel_rfl
theorem tb_callable_9 : callable Try.prog 9 = true := by kernel_rfl
theorem tb_callable_90 : callable Try.prog 90 = true := by kernel_rfl
theorem tb_callable_91 : callable Try.prog 91 = true := by kernel_rfl
theorem tb_callable_92 : callable Try.prog 92 = true := by kernel_rfl
theorem tb_callable_93 : callable Try.prog 93 = true := by kernel_rfl
theorem tb_callable_94 : callable Try.prog 94 = true := by kernel_rfl
theorem tb_callable_95 : callable Try.prog 95 = true := by kernel_rfl
theorem tb_callable_96 : callable Try.prog 96 = true := by kernel_rfl
theorem tb_cellsT_102 : cellsT Try.prog 102 = some 1 := by kernel_rfl
theorem tb_cellsT_122 : cellsT Try.prog 122 = some 3 := by kernel_rfl
theorem tb_cellsT_132 : cellsT Try.prog 132 = some 5 := by kernel_rfl
theorem tb_cellsT_135 : cellsT Try.prog 135 = some 1 := by kernel_rfl
theorem tb_cellsT_137 : cellsT Try.prog 137 = some 1 := by kernel_rfl
theorem tb_cellsT_138 : cellsT Try.prog 138 = some 1 := by kernel_rfl
theorem tb_cellsT_139 : cellsT Try.prog 139 = some 1 := by kernel_rfl
theorem tb_cellsT_141 : cellsT Try.prog 141 = some 2 := by kernel_rfl
theorem tb_cellsT_142 : cellsT Try.prog 142 = some 1 := by kernel_rfl
theorem tb_cellsT_144 : cellsT Try.prog 144 = some 2 := by kernel_rfl
theorem tb_cellsT_145 : cellsT Try.prog 145 = some 1 := by kernel_rfl
theorem tb_cellsT_149 : cellsT Try.prog 149 = some 6 := by kernel_rfl
theorem tb_cellsT_150 : cellsT Try.prog 150 = some 1 := by kernel_rfl
theorem tb_cellsT_152 : cellsT Try.prog 152 = some 2 := by kernel_rfl
theorem tb_cellsT_153 : cellsT Try.prog 153 = some 1 := by kernel_rfl
theorem tb_cellsT_155 : cellsT Try.prog 155 = some 2 := by kernel_rfl
theorem tb_cellsT_156 : cellsT Try.prog 156 = some 1 := by kernel_rfl
theorem tb_cellsT_159 : cellsT Try.prog 159 = some 3 := by kernel_rfl
theorem tb_cellsT_160 : cellsT Try.prog 160 = some 1 := by kernel_rfl
theorem tb_cellsT_162 : cellsT Try.prog 162 = some 2 := by kernel_rfl
theorem tb_cellsT_163 : cellsT Try.prog 163 = some 1 := by kernel_rfl
theorem tb_cellsT_165 : cellsT Try.prog 165 = some 3 := by kernel_rfl
theorem tb_cellsT_166 : cellsT Try.prog 166 = some 1 := by kernel_rfl
theorem tb_cellsT_169 : cellsT Try.prog 169 = some 4 := by kernel_rfl
theorem tb_cellsT_170 : cellsT Try.prog 170 = some 1 := by kernel_rfl
theorem tb_cellsT_174 : cellsT Try.prog 174 = some 4 := by kernel_rfl
theorem tb_cellsT_175 : cellsT Try.prog 175 = some 1 := by kernel_rfl
theorem tb_cellsT_177 : cellsT Try.prog 177 = some 2 := by kernel_rfl
theorem tb_cellsT_178 : cellsT Try.prog 178 = some 1 := by kernel_rfl
theorem tb_cellsT_180 : cellsT Try.prog 180 = some 4 := by kernel_rfl
theorem tb_cellsT_181 : cellsT Try.prog 181 = some 1 := by kernel_rfl
theorem tb_cellsT_183 : cellsT Try.prog 183 = some 3 := by kernel_rfl
theorem tb_cellsT_185 : cellsT Try.prog 185 = some 6 := by kernel_rfl
theorem tb_cellsT_186 : cellsT Try.prog 186 = some 1 := by kernel_rfl
theorem tb_cellsT_188 : cellsT Try.prog 188 = some 10 := by kernel_rfl
theorem tb_cellsT_189 : cellsT Try.prog 189 = some 1 := by kernel_rfl
theorem tb_cellsT_190 : cellsT Try.prog 190 = some 1 := by kernel_rfl
theorem tb_cellsT_192 : cellsT Try.prog 192 = some 4 := by kernel_rfl
theorem tb_cellsT_193 : cellsT Try.prog 193 = some 1 := by kernel_rfl
theorem tb_cellsT_195 : cellsT Try.prog 195 = some 3 := by kernel_rfl
theorem tb_cellsT_196 : cellsT Try.prog 196 = some 1 := by kernel_rfl
theorem tb_cellsT_198 : cellsT Try.prog 198 = some 2 := by kernel_rfl
theorem tb_cellsT_199 : cellsT Try.prog 199 = some 1 := by kernel_rfl
theorem tb_cellsT_2 : cellsT Try.prog 2 = some 1 := by kernel_rfl
theorem tb_cellsT_201 : cellsT Try.prog 201 = some 2 := by kernel_rfl
theorem tb_cellsT_202 : cellsT Try.prog 202 = some 1 := by kernel_rfl
theorem tb_cellsT_204 : cellsT Try.prog 204 = some 3 := by kernel_rfl
theorem tb_cellsT_205 : cellsT Try.prog 205 = some 1 := by kernel_rfl
theorem tb_cellsT_207 : cellsT Try.prog 207 = some 3 := by kernel_rfl
theorem tb_cellsT_23 : cellsT Try.prog 23 = some 1 := by kernel_rfl
theorem tb_cellsT_24 : cellsT Try.prog 24 = some 1 := by kernel_rfl
theorem tb_cellsT_26 : cellsT Try.prog 26 = some 2 := by kernel_rfl
theorem tb_cellsT_28 : cellsT Try.prog 28 = some 3 := by kernel_rfl
theorem tb_cellsT_29 : cellsT Try.prog 29 = some 1 := by kernel_rfl
theorem tb_cellsT_3 : cellsT Try.prog 3 = some 1 := by kernel_rfl
theorem tb_cellsT_31 : cellsT Try.prog 31 = some 1 := by kernel_rfl
theorem tb_cellsT_35 : cellsT Try.prog 35 = some 1 := by kernel_rfl
theorem tb_cellsT_37 : cellsT Try.prog 37 = some 5 := by kernel_rfl
theorem tb_cellsT_47 : cellsT Try.prog 47 = some 1 := by kernel_rfl
theorem tb_cellsT_48 : cellsT Try.prog 48 = some 1 := by kernel_rfl
theorem tb_cellsT_49 : cellsT Try.prog 49 = some 1 := by kernel_rfl
theorem tb_cellsT_5 : cellsT Try.prog 5 = some 1 := by kernel_rfl
theorem tb_cellsT_50 : cellsT Try.prog 50 = some 1 := by kernel_rfl
theorem tb_cellsT_51 : cellsT Try.prog 51 = some 1 := by kernel_rfl
theorem tb_cellsT_52 : cellsT Try.prog 52 = some 1 := by kernel_rfl
theorem tb_cellsT_53 : cellsT Try.prog 53 = some 1 := by kernel_rfl
theorem tb_cellsT_54 : cellsT Try.prog 54 = some 1 := by kernel_rfl
theorem tb_cellsT_55 : cellsT Try.prog 55 = some 1 := by kernel_rfl
theorem tb_cellsT_56 : cellsT Try.prog 56 = some 1 := by kernel_rfl
theorem tb_cellsT_57 : cellsT Try.prog 57 = some 1 := by kernel_rfl
theorem tb_cellsT_58 : cellsT Try.prog 58 = some 1 := by kernel_rfl
theorem tb_cellsT_59 : cellsT Try.prog 59 = some 1 := by kernel_rfl
theorem tb_cellsT_60 : cellsT Try.prog 60 = some 1 := by kernel_rfl
theorem tb_cellsT_61 : cellsT Try.prog 61 = some 1 := by kernel_rfl
theorem tb_cellsT_62 : cellsT Try.prog 62 = some 1 := by kernel_rfl
theorem tb_cellsT_63 : cellsT Try.prog 63 = some 1 := by kernel_rfl
theorem tb_cellsT_64 : cellsT Try.prog 64 = some 1 := by kernel_rfl
theorem tb_cellsT_65 : cellsT Try.prog 65 = some 1 := by kernel_rfl
theorem tb_cellsT_66 : cellsT Try.prog 66 = some 1 := by kernel_rfl
theorem tb_cellsT_67 : cellsT Try.prog 67 = some 1 := by kernel_rfl
theorem tb_cellsT_68 : cellsT Try.prog 68 = some 1 := by kernel_rfl
theorem tb_cellsT_69 : cellsT Try.prog 69 = some 1 := by kernel_rfl
theorem tb_cellsT_70 : cellsT Try.prog 70 = some 1 := by kernel_rfl
theorem tb_cellsT_71 : cellsT Try.prog 71 = some 1 := by kernel_rfl
theorem tb_cellsT_72 : cellsT Try.prog 72 = some 1 := by kernel_rfl
theorem tb_cellsT_73 : cellsT Try.prog 73 = some 1 := by kernel_rfl
theorem tb_cellsT_74 : cellsT Try.prog 74 = some 1 := by kernel_rfl
theorem tb_cellsT_76 : cellsT Try.prog 76 = some 28 := by kernel_rfl
theorem tb_cellsT_77 : cellsT Try.prog 77 = some 1 := by kernel_rfl
theorem tb_cellsT_9 : cellsT Try.prog 9 = some 1 := by kernel_rfl
theorem tb_convT_102_2 : convT Try.prog 102 2 = .toInt .i64 := by kernel_rfl
theorem tb_convT_102_3 : convT Try.prog 102 3 = .toInt .i64 := by kernel_rfl
theorem tb_convT_102_5 : convT Try.prog 102 5 = .toInt .u8 := by kernel_rfl
theorem tb_convT_24_102 : convT Try.prog 24 102 = .toInt .u64 := by kernel_rfl
theorem tb_convT_29_9 : convT Try.prog 29 9 = .strStr := by kernel_rfl
theorem tb_convT_2_102 : convT Try.prog 2 102 = .toInt .u64 := by kernel_rfl
theorem tb_convT_3_102 : convT Try.prog 3 102 = .toInt .u64 := by kernel_rfl
theorem tb_convT_3_5 : convT Try.prog 3 5 = .toInt .u8 := by kernel_rfl
theorem tb_convT_5_102 : convT Try.prog 5 102 = .toInt .u64 := by kernel_rfl
theorem tb_convT_5_3 : convT Try.prog 5 3 = .toInt .i64 := by kernel_rfl
theorem tb_eqT_105 : eqT Try.prog 105 = .ptr := by kernel_rfl
theorem tb_eqT_141 : eqT Try.prog 141 = .struct := by kernel_rfl
theorem tb_eqT_144 : eqT Try.prog 144 = .struct := by kernel_rfl
theorem tb_eqT_149 : eqT Try.prog 149 = .struct := by kernel_rfl
theorem tb_eqT_152 : eqT Try.prog 152 = .struct := by kernel_rfl
theorem tb_eqT_155 : eqT Try.prog 155 = .struct := by kernel_rfl
theorem tb_eqT_159 : eqT Try.prog 159 = .struct := by kernel_rfl
theorem tb_eqT_162 : eqT Try.prog 162 = .struct := by kernel_rfl
theorem tb_eqT_165 : eqT Try.prog 165 = .struct := by kernel_rfl
theorem tb_eqT_169 : eqT Try.prog 169 = .struct := by kernel_rfl
theorem tb_eqT_174 : eqT Try.prog 174 = .struct := by kernel_rfl
theorem tb_eqT_177 : eqT Try.prog 177 = .struct := by kernel_rfl
theorem tb_eqT_210 : eqT Try.prog 210 = .ptr := by kernel_rfl
theorem tb_eqT_26 : eqT Try.prog 26 = .struct := by kernel_rfl
theorem tb_eqT_28 : eqT Try.prog 28 = .struct := by kernel_rfl
theorem tb_eqT_29 : eqT Try.prog 29 = .sl := by kernel_rfl
theorem tb_eqT_31 : eqT Try.prog 31 = .iface := by kernel_rfl
theorem tb_eqT_94 : eqT Try.prog 94 = .ptr := by kernel_rfl
theorem tb_fieldOff_122_0 : fieldOff Try.prog 122 0 = some 0 := by kernel_rfl
theorem tb_fieldOff_122_1 : fieldOff Try.prog 122 1 = some 1 := by kernel_rfl
theorem tb_fieldOff_122_2 : fieldOff Try.prog 122 2 = some 2 := by kernel_rfl
theorem tb_fieldOff_124_0 : fieldOff Try.prog 124 0 = some 0 := by kernel_rfl
theorem tb_fieldOff_124_1 : fieldOff Try.prog 124 1 = some 3 := by kernel_rfl
theorem tb_fieldOff_132_0 : fieldOff Try.prog 132 0 = some 0 := by kernel_rfl
theorem tb_fieldOff_132_1 : fieldOff Try.prog 132 1 = some 1 := by kernel_rfl
theorem tb_fieldOff_132_2 : fieldOff Try.prog 132 2 = some 2 := by kernel_rfl
theorem tb_fieldOff_132_3 : fieldOff Try.prog 132 3 = some 3 := by kernel_rfl
theorem tb_fieldOff_132_4 : fieldOff Try.prog 132 4 = some 4 := by kernel_rfl
theorem tb_fieldOff_180_0 : fieldOff Try.prog 180 0 = some 0 := by kernel_rfl
theorem tb_fieldOff_183_0 : fieldOff Try.prog 183 0 = some 0 := by kernel_rfl
theorem tb_fieldOff_185_1 : fieldOff Try.prog 185 1 = some 3 := by kernel_rfl
theorem tb_fieldOff_188_1 : fieldOff Try.prog 188 1 = some 3 := by kernel_rfl
theorem tb_fieldOff_192_2 : fieldOff Try.prog 192 2 = some 3 := by kernel_rfl
theorem tb_fieldOff_195_0 : fieldOff Try.prog 195 0 = some 0 := by kernel_rfl
theorem tb_fieldOff_198_0 : fieldOff Try.prog 198 0 = some 0 := by kernel_rfl
theorem tb_fieldOff_201_0 : fieldOff Try.prog 201 0 = some 0 := by kernel_rfl
theorem tb_fieldOff_204_0 : fieldOff Try.prog 204 0 = some 0 := by kernel_rfl
theorem tb_fieldOff_207_0 : fieldOff Try.prog 207 0 = some 0 := by kernel_rfl
theorem tb_fieldOff_26_0 : fieldOff Try.prog 26 0 = some 0 := by kernel_rfl
theorem tb_fieldOff_26_1 : fieldOff Try.prog 26 1 = some 1 := by kernel_rfl
theorem tb_fieldOff_28_0 : fieldOff Try.prog 28 0 = some 0 := by kernel_rfl
theorem tb_fieldOff_28_1 : fieldOff Try.prog 28 1 = some 1 := by kernel_rfl
theorem tb_fieldOff_37_0 : fieldOff Try.prog 37 0 = some 0 := by kernel_rfl
theorem tb_fieldOff_76_0 : fieldOff Try.prog 76 0 = some 0 := by kernel_rfl
theorem tb_fieldOff_76_1 : fieldOff Try.prog 76 1 = some 1 := by kernel_rfl
theorem tb_fieldOff_76_10 : fieldOff Try.prog 76 10 = some 10 := by kernel_rfl
theorem tb_fieldOff_76_11 : fieldOff Try.prog 76 11 = some 11 := by kernel_rfl
theorem tb_fieldOff_76_12 : fieldOff Try.prog 76 12 = some 12 := by kernel_rfl
theorem tb_fieldOff_76_13 : fieldOff Try.prog 76 13 = some 13 := by kernel_rfl
theorem tb_fieldOff_76_14 : fieldOff Try.prog 76 14 = some 14 := by kernel_rfl
theorem tb_fieldOff_76_15 : fieldOff Try.prog 76 15 = some 15 := by kernel_rfl
theorem tb_fieldOff_76_16 : fieldOff Try.prog 76 16 = some 16 := by kernel_rfl
theorem tb_fieldOff_76_17 : fieldOff Try.prog 76 17 = some 17 := by kernel_rfl
theorem tb_fieldOff_76_18 : fieldOff Try.prog 76 18 = some 18 := by kernel_rfl
theorem tb_fieldOff_76_19 : fieldOff Try.prog 76 19 = some 19 := by kernel_rfl
theorem tb_fieldOff_76_2 : fieldOff Try.prog 76 2 = some 2 := by kernel_rfl
theorem tb_fieldOff_76_20 : fieldOff Try.prog 76 20 = some 20 := by kernel_rfl
theorem tb_fieldOff_76_21 : fieldOff Try.prog 76 21 = some 21 := by kernel_rfl
theorem tb_fieldOff_76_22 : fieldOff Try.prog 76 22 = some 22 := by kernel_rfl
theorem tb_fieldOff_76_23 : fieldOff Try.prog 76 23 = some 23 := by kernel_rfl
theorem tb_fieldOff_76_24 : fieldOff Try.prog 76 24 = some 24 := by kernel_rfl
theorem tb_fieldOff_76_25 : fieldOff Try.prog 76 25 = some 25 := by kernel_rfl
theorem tb_fieldOff_76_26 : fieldOff Try.prog 76 26 = some 26 := by kernel_rfl
theorem tb_fieldOff_76_27 : fieldOff Try.prog 76 27 = some 27 := by kernel_rfl
theorem tb_fieldOff_76_3 : fieldOff Try.prog 76 3 = some 3 := by kernel_rfl
theorem tb_fieldOff_76_4 : fieldOff Try.prog 76 4 = some 4 := by kernel_rfl
theorem tb_fieldOff_76_5 : fieldOff Try.prog 76 5 = some 5 := by kernel_rfl
theorem tb_fieldOff_76_6 : fieldOff Try.prog 76 6 = some 6 := by kernel_rfl
theorem tb_fieldOff_76_7 : fieldOff Try.prog 76 7 = some 7 := by kernel_rfl
theorem tb_fieldOff_76_8 : fieldOff Try.prog 76 8 = some 8 := by kernel_rfl
theorem tb_fieldOff_76_9 : fieldOff Try.prog 76 9 = some 9 := by kernel_rfl
theorem tb_fieldOff_87_0 : fieldOff Try.prog 87 0 = some 0 := by kernel_rfl
theorem tb_fieldOff_87_1 : fieldOff Try.prog 87 1 = some 1 := by kernel_rfl
theorem tb_fieldOff_93_0 : fieldOff Try.prog 93 0 = some 0 := by kernel_rfl
theorem tb_fieldOff_93_1 : fieldOff Try.prog 93 1 = some 1 := by kernel_rfl
theorem tb_ifaceT_212 : ifaceT Try.prog 212 = some false := by kernel_rfl
theorem tb_ifaceT_35 : ifaceT Try.prog 35 = some false := by kernel_rfl
theorem tb_indexT_129 : indexT Try.prog 129 = some (.sl 5) := by kernel_rfl
theorem tb_indexT_135 : indexT Try.prog 135 = some (.sl 1) := by kernel_rfl
theorem tb_indexT_137 : indexT Try.prog 137 = some (.sl 1) := by kernel_rfl
theorem tb_indexT_138 : indexT Try.prog 138 = some (.sl 1) := by kernel_rfl
theorem tb_indexT_139 : indexT Try.prog 139 = some (.sl 2) := by kernel_rfl
theorem tb_indexT_142 : indexT Try.prog 142 = some (.sl 2) := by kernel_rfl
theorem tb_indexT_145 : indexT Try.prog 145 = some (.sl 6) := by kernel_rfl
theorem tb_indexT_150 : indexT Try.prog 150 = some (.sl 2) := by kernel_rfl
theorem tb_indexT_153 : indexT Try.prog 153 = some (.sl 2) := by kernel_rfl
theorem tb_indexT_156 : indexT Try.prog 156 = some (.sl 3) := by kernel_rfl
theorem tb_indexT_160 : indexT Try.prog 160 = some (.sl 2) := by kernel_rfl
theorem tb_indexT_163 : indexT Try.prog 163 = some (.sl 3) := by kernel_rfl
theorem tb_indexT_166 : indexT Try.prog 166 = some (.sl 4) := by kernel_rfl
theorem tb_indexT_170 : indexT Try.prog 170 = some (.sl 4) := by kernel_rfl
theorem tb_indexT_175 : indexT Try.prog 175 = some (.sl 2) := by kernel_rfl
theorem tb_indexT_178 : indexT Try.prog 178 = some (.sl 4) := by kernel_rfl
theorem tb_indexT_181 : indexT Try.prog 181 = some (.sl 6) := by kernel_rfl
theorem tb_indexT_186 : indexT Try.prog 186 = some (.sl 10) := by kernel_rfl
theorem tb_indexT_189 : indexT Try.prog 189 = some (.sl 3) := by kernel_rfl
theorem tb_indexT_190 : indexT Try.prog 190 = some (.sl 4) := by kernel_rfl
theorem tb_indexT_193 : indexT Try.prog 193 = some (.sl 3) := by kernel_rfl
theorem tb_indexT_196 : indexT Try.prog 196 = some (.sl 2) := by kernel_rfl
theorem tb_indexT_199 : indexT Try.prog 199 = some (.sl 2) := by kernel_rfl
theorem tb_indexT_202 : indexT Try.prog 202 = some (.sl 3) := by kernel_rfl
theorem tb_indexT_205 : indexT Try.prog 205 = some (.sl 3) := by kernel_rfl
theorem tb_indexT_23 : indexT Try.prog 23 = some (.sl 3) := by kernel_rfl
theorem tb_indexT_29 : indexT Try.prog 29 = some (.sl 1) := by kernel_rfl
theorem tb_indexT_47 : indexT Try.prog 47 = some (.sl 1) := by kernel_rfl
theorem tb_indexT_48 : indexT Try.prog 48 = some (.sl 1) := by kernel_rfl
theorem tb_indexT_49 : indexT Try.prog 49 = some (.sl 1) := by kernel_rfl
theorem tb_indexT_50 : indexT Try.prog 50 = some (.sl 1) := by kernel_rfl
theorem tb_indexT_51 : indexT Try.prog 51 = some (.sl 1) := by kernel_rfl
theorem tb_indexT_52 : indexT Try.prog 52 = some (.sl 1) := by kernel_rfl
theorem tb_indexT_53 : indexT Try.prog 53 = some (.sl 1) := by kernel_rfl
theorem tb_indexT_54 : indexT Try.prog 54 = some (.sl 1) := by kernel_rfl
theorem tb_indexT_55 : indexT Try.prog 55 = some (.sl 1) := by kernel_rfl
theorem tb_indexT_56 : indexT Try.prog 56 = some (.sl 1) := by kernel_rfl
theorem tb_indexT_57 : indexT Try.prog 57 = some (.sl 1) := by kernel_rfl
theorem tb_indexT_58 : indexT Try.prog 58 = some (.sl 1) := by kernel_rfl
theorem tb_indexT_59 : indexT Try.prog 59 = some (.sl 1) := by kernel_rfl
theorem tb_indexT_60 : indexT Try.prog 60 = some (.sl 1) := by kernel_rfl
theorem tb_indexT_61 : indexT Try.prog 61 = some (.sl 1) := by kernel_rfl
theorem tb_indexT_62 : indexT Try.prog 62 = some (.sl 1) := by kernel_rfl
theorem tb_indexT_63 : indexT Try.prog 63 = some (.sl 1) := by kernel_rfl
theorem tb_indexT_64 : indexT Try.prog 64 = some (.sl 1) := by kernel_rfl
theorem tb_indexT_65 : indexT Try.prog 65 = some (.sl 1) := by kernel_rfl
theorem tb_indexT_66 : indexT Try.prog 66 = some (.sl 1) := by kernel_rfl
theorem tb_indexT_67 : indexT Try.prog 67 = some (.sl 1) := by kernel_rfl
theorem tb_indexT_68 : indexT Try.prog 68 = some (.sl 1) := by kernel_rfl
theorem tb_indexT_69 : indexT Try.prog 69 = some (.sl 1) := by kernel_rfl
theorem tb_indexT_70 : indexT Try.prog 70 = some (.sl 1) := by kernel_rfl
theorem tb_indexT_71 : indexT Try.prog 71 = some (.sl 1) := by kernel_rfl
theorem tb_indexT_72 : indexT Try.prog 72 = some (.sl 1) := by kernel_rfl
theorem tb_indexT_73 : indexT Try.prog 73 = some (.sl 1) := by kernel_rfl
theorem tb_indexT_74 : indexT Try.prog 74 = some (.sl 1) := by kernel_rfl
theorem tb_indexT_77 : indexT Try.prog 77 = some (.sl 1) := by kernel_rfl
theorem tb_indexT_78 : indexT Try.prog 78 = some (.sl 2) := by kernel_rfl
theorem tb_indexT_9 : indexT Try.prog 9 = some (.str) := by kernel_rfl
theorem tb_isAggT_102 : isAggT Try.prog 102 = some false := by kernel_rfl
theorem tb_isAggT_122 : isAggT Try.prog 122 = some true := by kernel_rfl
theorem tb_isAggT_132 : isAggT Try.prog 132 = some true := by kernel_rfl
theorem tb_isAggT_135 : isAggT Try.prog 135 = some false := by kernel_rfl
theorem tb_isAggT_137 : isAggT Try.prog 137 = some false := by kernel_rfl
theorem tb_isAggT_138 : isAggT Try.prog 138 = some false := by kernel_rfl
theorem tb_isAggT_139 : isAggT Try.prog 139 = some false := by kernel_rfl
theorem tb_isAggT_141 : isAggT Try.prog 141 = some true := by kernel_rfl
theorem tb_isAggT_142 : isAggT Try.prog 142 = some false := by kernel_rfl
theorem tb_isAggT_144 : isAggT Try.prog 144 = some true := by kernel_rfl
theorem tb_isAggT_145 : isAggT Try.prog 145 = some false := by kernel_rfl
theorem tb_isAggT_149 : isAggT Try.prog 149 = some true := by kernel_rfl
theorem tb_isAggT_150 : isAggT Try.prog 150 = some false := by kernel_rfl
theorem tb_isAggT_152 : isAggT Try.prog 152 = some true := by kernel_rfl
theorem tb_isAggT_153 : isAggT Try.prog 153 = some false := by kernel_rfl
theorem tb_isAggT_155 : isAggT Try.prog 155 = some true := by kernel_rfl
theorem tb_isAggT_156 : isAggT Try.prog 156 = some false := by kernel_rfl
theorem tb_isAggT_159 : isAggT Try.prog 159 = some true := by kernel_rfl
theorem tb_isAggT_160 : isAggT Try.prog 160 = some false := by kernel_rfl
theorem tb_isAggT_162 : isAggT Try.prog 162 = some true := by kernel_rfl
theorem tb_isAggT_163 : isAggT Try.prog 163 = some false := by kernel_rfl
theorem tb_isAggT_165 : isAggT Try.prog 165 = some true := by kernel_rfl
theorem tb_isAggT_166 : isAggT Try.prog 166 = some false := by kernel_rfl
theorem tb_isAggT_169 : isAggT Try.prog 169 = some true := by kernel_rfl
theorem tb_isAggT_170 : isAggT Try.prog 170 = some false := by kernel_rfl
theorem tb_isAggT_174 : isAggT Try.prog 174 = some true := by kernel_rfl
theorem tb_isAggT_175 : isAggT Try.prog 175 = some false := by kernel_rfl
theorem tb_isAggT_177 : isAggT Try.prog 177 = some true := by kernel_rfl
theorem tb_isAggT_178 : isAggT Try.prog 178 = some false := by kernel_rfl
theorem tb_isAggT_180 : isAggT Try.prog 180 = some true := by kernel_rfl
theorem tb_isAggT_181 : isAggT Try.prog 181 = some false := by kernel_rfl
theorem tb_isAggT_183 : isAggT Try.prog 183 = some true := by kernel_rfl
theorem tb_isAggT_185 : isAggT Try.prog 185 = some true := by kernel_rfl
theorem tb_isAggT_186 : isAggT Try.prog 186 = some false := by kernel_rfl
theorem tb_isAggT_188 : isAggT Try.prog 188 = some true := by kernel_rfl
theorem tb_isAggT_189 : isAggT Try.prog 189 = some false := by kernel_rfl
theorem tb_isAggT_190 : isAggT Try.prog 190 = some false := by kernel_rfl
theorem tb_isAggT_192 : isAggT Try.prog 192 = some true := by kernel_rfl
theorem tb_isAggT_193 : isAggT Try.prog 193 = some false := by kernel_rfl
theorem tb_isAggT_195 : isAggT Try.prog 195 = some true := by kernel_rfl
theorem tb_isAggT_196 : isAggT Try.prog 196 = some false := by kernel_rfl
theorem tb_isAggT_198 : isAggT Try.prog 198 = some true := by kernel_rfl
theorem tb_isAggT_199 : isAggT Try.prog 199 = some false := by kernel_rfl
theorem tb_isAggT_2 : isAggT Try.prog 2 = some false := by kernel_rfl
theorem tb_isAggT_201 : isAggT Try.prog 201 = some true := by kernel_rfl
theorem tb_isAggT_202 : isAggT Try.prog 202 = some false := by kernel_rfl
theorem tb_isAggT_204 : isAggT Try.prog 204 = some true := by kernel_rfl
theorem tb_isAggT_205 : isAggT Try.prog 205 = some false := by kernel_rfl
theorem tb_isAggT_207 : isAggT Try.prog 207 = some true := by kernel_rfl
theorem tb_isAggT_23 : isAggT Try.prog 23 = some false := by kernel_rfl
theorem tb_isAggT_24 : isAggT Try.prog 24 = some false := by kernel_rfl
theorem tb_isAggT_26 : isAggT Try.prog 26 = some true := by kernel_rfl
theorem tb_isAggT_28 : isAggT Try.prog 28 = some true := by kernel_rfl
theorem tb_isAggT_29 : isAggT Try.prog 29 = some false := by kernel_rfl
theorem tb_isAggT_3 : isAggT Try.prog 3 = some false := by kernel_rfl
theorem tb_isAggT_31 : isAggT Try.prog 31 = some false := by kernel_rfl
theorem tb_isAggT_35 : isAggT Try.prog 35 = some false := by kernel_rfl
theorem tb_isAggT_37 : isAggT Try.prog 37 = some true := by kernel_rfl
theorem tb_isAggT_47 : isAggT Try.prog 47 = some false := by kernel_rfl
theorem tb_isAggT_48 : isAggT Try.prog 48 = some false := by kernel_rfl
theorem tb_isAggT_49 : isAggT Try.prog 49 = some false := by kernel_rfl
theorem tb_isAggT_5 : isAggT Try.prog 5 = some false := by kernel_rfl
theorem tb_isAggT_50 : isAggT Try.prog 50 = some false := by kernel_rfl
theorem tb_isAggT_51 : isAggT Try.prog 51 = some false := by kernel_rfl
theorem tb_isAggT_52 : isAggT Try.prog 52 = some false := by kernel_rfl
theorem tb_isAggT_53 : isAggT Try.prog 53 = some false := by kernel_rfl
theorem tb_isAggT_54 : isAggT Try.prog 54 = some false := by kernel_rfl
theorem tb_isAggT_55 : isAggT Try.prog 55 = some false := by kernel_rfl
theorem tb_isAggT_56 : isAggT Try.prog 56 = some false := by kernel_rfl
theorem tb_isAggT_57 : isAggT Try.prog 57 = some false := by kernel_rfl
theorem tb_isAggT_58 : isAggT Try.prog 58 = some false := by kernel_rfl
theorem tb_isAggT_59 : isAggT Try.prog 59 = some false := by kernel_rfl
theorem tb_isAggT_60 : isAggT Try.prog 60 = some false := by kernel_rfl
theorem tb_isAggT_61 : isAggT Try.prog 61 = some false := by kernel_rfl
theorem tb_isAggT_62 : isAggT Try.prog 62 = some false := by kernel_rfl
theorem tb_isAggT_63 : isAggT Try.prog 63 = some false := by kernel_rfl
theorem tb_isAggT_64 : isAggT Try.prog 64 = some false := by kernel_rfl
theorem tb_isAggT_65 : isAggT Try.prog 65 = some false := by kernel_rfl
theorem tb_isAggT_66 : isAggT Try.prog 66 = some false := by kernel_rfl
theorem tb_isAggT_67 : isAggT Try.prog 67 = some false := by kernel_rfl
theorem tb_isAggT_68 : isAggT Try.prog 68 = some false := by kernel_rfl
theorem tb_isAggT_69 : isAggT Try.prog 69 = some false := by kernel_rfl
theorem tb_isAggT_70 : isAggT Try.prog 70 = some false := by kernel_rfl
theorem tb_isAggT_71 : isAggT Try.prog 71 = some false := by kernel_rfl
theorem tb_isAggT_72 : isAggT Try.prog 72 = some false := by kernel_rfl
theorem tb_isAggT_73 : isAggT Try.prog 73 = some false := by kernel_rfl
theorem tb_isAggT_74 : isAggT Try.prog 74 = some false := by kernel_rfl
theorem tb_isAggT_76 : isAggT Try.prog 76 = some true := by kernel_rfl
theorem tb_isAggT_77 : isAggT Try.prog 77 = some false := by kernel_rfl
theorem tb_isAggT_9 : isAggT Try.prog 9 = some false := by kernel_rfl
theorem tb_lenT_129 : lenT Try.prog 129 = .sl := by kernel_rfl
theorem tb_lenT_135 : lenT Try.prog 135 = .sl := by kernel_rfl
theorem tb_lenT_137 : lenT Try.prog 137 = .sl := by kernel_rfl
theorem tb_lenT_138 : lenT Try.prog 138 = .sl := by kernel_rfl
theorem tb_lenT_139 : lenT Try.prog 139 = .sl := by kernel_rfl
theorem tb_lenT_142 : lenT Try.prog 142 = .sl := by kernel_rfl
theorem tb_lenT_145 : lenT Try.prog 145 = .sl := by kernel_rfl
theorem tb_lenT_150 : lenT Try.prog 150 = .sl := by kernel_rfl
theorem tb_lenT_153 : lenT Try.prog 153 = .sl := by kernel_rfl
theorem tb_lenT_156 : lenT Try.prog 156 = .sl := by kernel_rfl
theorem tb_lenT_160 : lenT Try.prog 160 = .sl := by kernel_rfl
theorem tb_lenT_163 : lenT Try.prog 163 = .sl := by kernel_rfl
theorem tb_lenT_166 : lenT Try.prog 166 = .sl := by kernel_rfl
theorem tb_lenT_170 : lenT Try.prog 170 = .sl := by kernel_rfl
theorem tb_lenT_175 : lenT Try.prog 175 = .sl := by kernel_rfl
theorem tb_lenT_178 : lenT Try.prog 178 = .sl := by kernel_rfl
theorem tb_lenT_181 : lenT Try.prog 181 = .sl := by kernel_rfl
theorem tb_lenT_186 : lenT Try.prog 186 = .sl := by kernel_rfl
theorem tb_lenT_189 : lenT Try.prog 189 = .sl := by kernel_rfl
theorem tb_lenT_190 : lenT Try.prog 190 = .sl := by kernel_rfl
theorem tb_lenT_193 : lenT Try.prog 193 = .sl := by kernel_rfl
theorem tb_lenT_196 : lenT Try.prog 196 = .sl := by kernel_rfl
theorem tb_lenT_199 : lenT Try.prog 199 = .sl := by kernel_rfl
theorem tb_lenT_202 : lenT Try.prog 202 = .sl := by kernel_rfl
theorem tb_lenT_205 : lenT Try.prog 205 = .sl := by kernel_rfl
theorem tb_lenT_23 : lenT Try.prog 23 = .sl := by kernel_rfl
theorem tb_lenT_29 : lenT Try.prog 29 = .sl := by kernel_rfl
theorem tb_lenT_47 : lenT Try.prog 47 = .sl := by kernel_rfl
theorem tb_lenT_48 : lenT Try.prog 48 = .sl := by kernel_rfl
theorem tb_lenT_49 : lenT Try.prog 49 = .sl := by kernel_rfl
theorem tb_lenT_50 : lenT Try.prog 50 = .sl := by kernel_rfl
theorem tb_lenT_51 : lenT Try.prog 51 = .sl := by kernel_rfl
theorem tb_lenT_52 : lenT Try.prog 52 = .sl := by kernel_rfl
theorem tb_lenT_53 : lenT Try.prog 53 = .sl := by kernel_rfl
theorem tb_lenT_54 : lenT Try.prog 54 = .sl := by kernel_rfl
theorem tb_lenT_55 : lenT Try.prog 55 = .sl := by kernel_rfl
theorem tb_lenT_56 : lenT Try.prog 56 = .sl := by kernel_rfl
theorem tb_lenT_57 : lenT Try.prog 57 = .sl := by kernel_rfl
theorem tb_lenT_58 : lenT Try.prog 58 = .sl := by kernel_rfl
theorem tb_lenT_59 : lenT Try.prog 59 = .sl := by kernel_rfl
theorem tb_lenT_60 : lenT Try.prog 60 = .sl := by kernel_rfl
theorem tb_lenT_61 : lenT Try.prog 61 = .sl := by kernel_rfl
theorem tb_lenT_62 : lenT Try.prog 62 = .sl := by kernel_rfl
theorem tb_lenT_63 : lenT Try.prog 63 = .sl := by kernel_rfl
theorem tb_lenT_64 : lenT Try.prog 64 = .sl := by kernel_rfl
theorem tb_lenT_65 : lenT Try.prog 65 = .sl := by kernel_rfl
theorem tb_lenT_66 : lenT Try.prog 66 = .sl := by kernel_rfl
theorem tb_lenT_67 : lenT Try.prog 67 = .sl := by kernel_rfl
theorem tb_lenT_68 : lenT Try.prog 68 = .sl := by kernel_rfl
theorem tb_lenT_69 : lenT Try.prog 69 = .sl := by kernel_rfl
theorem tb_lenT_70 : lenT Try.prog 70 = .sl := by kernel_rfl
theorem tb_lenT_71 : lenT Try.prog 71 = .sl := by kernel_rfl
theorem tb_lenT_72 : lenT Try.prog 72 = .sl := by kernel_rfl
theorem tb_lenT_73 : lenT Try.prog 73 = .sl := by kernel_rfl
theorem tb_lenT_74 : lenT Try.prog 74 = .sl := by kernel_rfl
theorem tb_lenT_77 : lenT Try.prog 77 = .sl := by kernel_rfl
theorem tb_lenT_78 : lenT Try.prog 78 = .sl := by kernel_rfl
theorem tb_res_10 : Try.f10.results.toList = [.tmp 2, .cell 3 37] := by kernel_rfl
theorem tb_res_11 : Try.f11.results.toList = [.tmp 2, .tmp 3] := by kernel_rfl
theorem tb_res_12 : Try.f12.results.toList = [.tmp 4] := by kernel_rfl
theorem tb_res_13 : Try.f13.results.toList = [.tmp 4] := by kernel_rfl
theorem tb_res_14 : Try.f14.results.toList = [.tmp 2, .tmp 3] := by kernel_rfl
theorem tb_res_15 : Try.f15.results.toList = [.tmp 2, .tmp 3] := by kernel_rfl
theorem tb_res_16 : Try.f16.results.toList = [.tmp 2, .tmp 3] := by kernel_rfl
theorem tb_res_17 : Try.f17.results.toList = [] := by kernel_rfl
theorem tb_res_18 : Try.f18.results.toList = [] := by kernel_rfl
theorem tb_res_19 : Try.f19.results.toList = [] := by kernel_rfl
theorem tb_res_2 : Try.f2.results.toList = [] := by kernel_rfl
theorem tb_res_20 : Try.f20.results.toList = [.tmp 2] := by kernel_rfl
theorem tb_res_21 : Try.f21.results.toList = [] := by kernel_rfl
theorem tb_res_22 : Try.f22.results.toList = [.tmp 2] := by kernel_rfl
theorem tb_res_23 : Try.f23.results.toList = [.tmp 2, .cell 3 37] := by kernel_rfl
theorem tb_res_24 : Try.f24.results.toList = [.tmp 2, .cell 3 37] := by kernel_rfl
theorem tb_res_25 : Try.f25.results.toList = [] := by kernel_rfl
theorem tb_res_26 : Try.f26.results.toList = [.tmp 2] := by kernel_rfl
theorem tb_res_27 : Try.f27.results.toList = [.tmp 4] := by kernel_rfl
theorem tb_res_28 : Try.f28.results.toList = [.tmp 2] := by kernel_rfl
theorem tb_res_29 : Try.f29.results.toList = [.tmp 2, .tmp 3] := by kernel_rfl
theorem tb_res_3 : Try.f3.results.toList = [.tmp 6] := by kernel_rfl
theorem tb_res_30 : Try.f30.results.toList = [.tmp 2] := by kernel_rfl
theorem tb_res_31 : Try.f31.results.toList = [] := by kernel_rfl
theorem tb_res_32 : Try.f32.results.toList = [] := by kernel_rfl
theorem tb_res_33 : Try.f33.results.toList = [] := by kernel_rfl
theorem tb_res_34 : Try.f34.results.toList = [.tmp 2] := by kernel_rfl
theorem tb_res_35 : Try.f35.results.toList = [] := by kernel_rfl
theorem tb_res_36 : Try.f36.results.toList = [.tmp 2] := by kernel_rfl
theorem tb_res_37 : Try.f37.results.toList = [.tmp 2] := by kernel_rfl
theorem tb_res_38 : Try.f38.results.toList = [.tmp 4] := by kernel_rfl
theorem tb_res_39 : Try.f39.results.toList = [.tmp 2] := by kernel_rfl
theorem tb_res_4 : Try.f4.results.toList = [.tmp 2] := by kernel_rfl
theorem tb_res_40 : Try.f40.results.toList = [.tmp 2] := by kernel_rfl
theorem tb_res_41 : Try.f41.results.toList = [.tmp 2] := by kernel_rfl
theorem tb_res_42 : Try.f42.results.toList = [.tmp 4] := by kernel_rfl
theorem tb_res_43 : Try.f43.results.toList = [.tmp 2] := by kernel_rfl
theorem tb_res_44 : Try.f44.results.toList = [.tmp 2] := by kernel_rfl
theorem tb_res_45 : Try.f45.results.toList = [.tmp 2] := by kernel_rfl
theorem tb_res_46 : Try.f46.results.toList = [.tmp 2] := by kernel_rfl
theorem tb_res_47 : Try.f47.results.toList = [.tmp 2] := by kernel_rfl
theorem tb_res_48 : Try.f48.results.toList = [.tmp 2] := by kernel_rfl
theorem tb_res_49 : Try.f49.results.toList = [.tmp 2] := by kernel_rfl
theorem tb_res_5 : Try.f5.results.toList = [.tmp 2] := by kernel_rfl
theorem tb_res_50 : Try.f50.results.toList = [.tmp 2] := by kernel_rfl
theorem tb_res_51 : Try.f51.results.toList = [.tmp 2] := by kernel_rfl
theorem tb_res_52 : Try.f52.results.toList = [.tmp 2] := by kernel_rfl
theorem tb_res_53 : Try.f53.results.toList = [.tmp 2] := by kernel_rfl
theorem tb_res_54 : Try.f54.results.toList = [.tmp 2] := by kernel_rfl
theorem tb_res_55 : Try.f55.results.toList = [.tmp 2] := by kernel_rfl
theorem tb_res_56 : Try.f56.results.toList = [.tmp 2] := by kernel_rfl
theorem tb_res_57 : Try.f57.results.toList = [.tmp 2] := by kernel_rfl
theorem tb_res_58 : Try.f58.results.toList = [.tmp 2] := by kernel_rfl
theorem tb_res_59 : Try.f59.results.toList = [.tmp 2] := by kernel_rfl
theorem tb_res_6 : Try.f6.results.toList = [.tmp 4] := by kernel_rfl
theorem tb_res_60 : Try.f60.results.toList = [.tmp 2] := by kernel_rfl
theorem tb_res_61 : Try.f61.results.toList = [.tmp 2] := by kernel_rfl
theorem tb_res_62 : Try.f62.results.toList = [.tmp 2] := by kernel_rfl
theorem tb_res_63 : Try.f63.results.toList = [.tmp 2] := by kernel_rfl
theorem tb_res_64 : Try.f64.results.toList = [.tmp 2] := by kernel_rfl
theorem tb_res_65 : Try.f65.results.toList = [.tmp 2] := by kernel_rfl
theorem tb_res_66 : Try.f66.results.toList = [.tmp 2] := by kernel_rfl
theorem tb_res_67 : Try.f67.results.toList = [.tmp 2] := by kernel_rfl
theorem tb_res_68 : Try.f68.results.toList = [.tmp 2] := by kernel_rfl
theorem tb_res_69 : Try.f69.results.toList = [.tmp 2] := by kernel_rfl
theorem tb_res_7 : Try.f7.results.toList = [.tmp 2] := by kernel_rfl
theorem tb_res_70 : Try.f70.results.toList = [.tmp 2] := by kernel_rfl
theorem tb_res_71 : Try.f71.results.toList = [] := by kernel_rfl
theorem tb_res_72 : Try.f72.results.toList = [.tmp 2] := by kernel_rfl
theorem tb_res_73 : Try.f73.results.toList = [.cell 2 37] := by kernel_rfl
theorem tb_res_74 : Try.f74.results.toList = [.tmp 2] := by kernel_rfl
theorem tb_res_75 : Try.f75.results.toList = [] := by kernel_rfl
theorem tb_res_76 : Try.f76.results.toList = [] := by kernel_rfl
theorem tb_res_77 : Try.f77.results.toList = [.tmp 2, .tmp 3, .tmp 4, .tmp 5] := by kernel_rfl
theorem tb_res_78 : Try.f78.results.toList = [] := by kernel_rfl
theorem tb_res_79 : Try.f79.results.toList = [.tmp 2] := by kernel_rfl
theorem tb_res_8 : Try.f8.results.toList = [.tmp 0] := by kernel_rfl
theorem tb_res_80 : Try.f80.results.toList = [.tmp 2] := by kernel_rfl
theorem tb_res_81 : Try.f81.results.toList = [.tmp 2] := by kernel_rfl
theorem tb_res_82 : Try.f82.results.toList = [] := by kernel_rfl
theorem tb_res_83 : Try.f83.results.toList = [.tmp 4] := by kernel_rfl
theorem tb_res_84 : Try.f84.results.toList = [.tmp 2] := by kernel_rfl
theorem tb_res_85 : Try.f85.results.toList = [.tmp 4] := by kernel_rfl
theorem tb_res_86 : Try.f86.results.toList = [.tmp 2] := by kernel_rfl
theorem tb_res_87 : Try.f87.results.toList = [.cell 6 26] := by kernel_rfl
theorem tb_res_88 : Try.f88.results.toList = [.tmp 0] := by kernel_rfl
theorem tb_res_89 : Try.f89.results.toList = [.tmp 6] := by kernel_rfl
theorem tb_res_9 : Try.f9.results.toList = [.tmp 2, .tmp 3] := by kernel_rfl
theorem tb_res_90 : Try.f90.results.toList = [.tmp 4] := by kernel_rfl
theorem tb_res_91 : Try.f91.results.toList = [.tmp 2] := by kernel_rfl
theorem tb_res_92 : Try.f92.results.toList = [.tmp 2] := by kernel_rfl
theorem tb_res_93 : Try.f93.results.toList = [.tmp 2] := by kernel_rfl
theorem tb_res_94 : Try.f94.results.toList = [] := by kernel_rfl
theorem tb_res_95 : Try.f95.results.toList = [.tmp 4] := by kernel_rfl
theorem tb_res_96 : Try.f96.results.toList = [.tmp 2] := by kernel_rfl
theorem tb_zeroT_122 : zeroT Try.prog 122 = some (.agg #[.slice none 0 0, .int .i64 0, .int .i64 0]) := by kernel_rfl
theorem tb_zeroT_124 : zeroT Try.prog 124 = some (.agg #[.slice none 0 0, .int .i64 0, .int .i64 0, .nilIface]) := by kernel_rfl
theorem tb_zeroT_132 : zeroT Try.prog 132 = some (.agg #[.int .i64 0, .int .i64 0, .int .i64 0, .int .i64 0, .int .i64 0]) := by kernel_rfl
theorem tb_zeroT_141 : zeroT Try.prog 141 = some (.agg #[.string ByteArray.empty, .string ByteArray.empty]) := by kernel_rfl
theorem tb_zeroT_144 : zeroT Try.prog 144 = some (.agg #[.string ByteArray.empty, .int .i64 0]) := by kernel_rfl
theorem tb_zeroT_149 : zeroT Try.prog 149 = some (.agg #[.int .u8 0, .int .u8 0, .string ByteArray.empty, .int .i64 0, .int .i64 0, .int .i64 0]) := by kernel_rfl
theorem tb_zeroT_152 : zeroT Try.prog 152 = some (.agg #[.string ByteArray.empty, .int .i64 0]) := by kernel_rfl
theorem tb_zeroT_155 : zeroT Try.prog 155 = some (.agg #[.int .u8 0, .string ByteArray.empty]) := by kernel_rfl
theorem tb_zeroT_159 : zeroT Try.prog 159 = some (.agg #[.int .u8 0, .int .i64 0, .int .i64 0]) := by kernel_rfl
theorem tb_zeroT_162 : zeroT Try.prog 162 = some (.agg #[.int .i64 0, .string ByteArray.empty]) := by kernel_rfl
theorem tb_zeroT_165 : zeroT Try.prog 165 = some (.agg #[.bool false, .int .u8 0, .int .i64 0]) := by kernel_rfl
theorem tb_zeroT_169 : zeroT Try.prog 169 = some (.agg #[.int .u8 0, .string ByteArray.empty, .int .i64 0, .int .i64 0]) := by kernel_rfl
theorem tb_zeroT_174 : zeroT Try.prog 174 = some (.agg #[.bool false, .int .i64 0, .int .i64 0, .int .u64 0]) := by kernel_rfl
theorem tb_zeroT_177 : zeroT Try.prog 177 = some (.agg #[.string ByteArray.empty, .int .i64 0]) := by kernel_rfl
theorem tb_zeroT_180 : zeroT Try.prog 180 = some (.agg #[.string ByteArray.empty, .slice none 0 0, .slice none 0 0, .int .i64 0]) := by kernel_rfl
theorem tb_zeroT_183 : zeroT Try.prog 183 = some (.agg #[.string ByteArray.empty, .slice none 0 0, .string ByteArray.empty]) := by kernel_rfl
theorem tb_zeroT_185 : zeroT Try.prog 185 = some (.agg #[.string ByteArray.empty, .slice none 0 0, .string ByteArray.empty, .int .i64 0, .int .u8 0, .int .i64 0]) := by kernel_rfl
theorem tb_zeroT_188 : zeroT Try.prog 188 = some (.agg #[.string ByteArray.empty, .slice none 0 0, .string ByteArray.empty, .int .i64 0, .bool false, .bool false, .int .u8 0, .int .i64 0, .int .u8 0, .int .i64 0]) := by kernel_rfl
theorem tb_zeroT_192 : zeroT Try.prog 192 = some (.agg #[.slice none 0 0, .string ByteArray.empty, .int .i64 0, .int .i64 0]) := by kernel_rfl
theorem tb_zeroT_195 : zeroT Try.prog 195 = some (.agg #[.string ByteArray.empty, .slice none 0 0, .slice none 0 0]) := by kernel_rfl
theorem tb_zeroT_198 : zeroT Try.prog 198 = some (.agg #[.string ByteArray.empty, .slice none 0 0]) := by kernel_rfl
theorem tb_zeroT_201 : zeroT Try.prog 201 = some (.agg #[.int .i64 0, .slice none 0 0]) := by kernel_rfl
theorem tb_zeroT_204 : zeroT Try.prog 204 = some (.agg #[.int .i64 0, .slice none 0 0, .slice none 0 0]) := by kernel_rfl
theorem tb_zeroT_207 : zeroT Try.prog 207 = some (.agg #[.string ByteArray.empty, .slice none 0 0, .slice none 0 0]) := by kernel_rfl
theorem tb_zeroT_26 : zeroT Try.prog 26 = some (.agg #[.int .u8 0, .int .i64 0]) := by kernel_rfl
theorem tb_zeroT_28 : zeroT Try.prog 28 = some (.agg #[.int .i64 0, .int .u8 0, .int .i64 0]) := by kernel_rfl
theorem tb_zeroT_37 : zeroT Try.prog 37 = some (.agg #[.int .i64 0, .int .i64 0, .int .i64 0, .bool false, .bool false]) := by kernel_rfl
theorem tb_zeroT_76 : zeroT Try.prog 76 = some (.agg #[.slice none 0 0, .slice none 0 0, .slice none 0 0, .slice none 0 0, .slice none 0 0, .slice none 0 0, .slice none 0 0, .slice none 0 0, .slice none 0 0, .slice none 0 0, .slice none 0 0, .slice none 0 0, .slice none 0 0, .slice none 0 0, .slice none 0 0, .slice none 0 0, .slice none 0 0, .slice none 0 0, .slice none 0 0, .slice none 0 0, .slice none 0 0, .slice none 0 0, .slice none 0 0, .slice none 0 0, .slice none 0 0, .slice none 0 0, .slice none 0 0, .slice none 0 0]) := by kernel_rfl
theorem tb_zeroT_87 : zeroT Try.prog 87 = some (.agg #[.slice none 0 0, .int .i64 0]) := by kernel_rfl
theorem tb_zeroT_93 : zeroT Try.prog 93 = some (.agg #[.slice none 0 0, .int .i64 0]) := by kernel_rfl
theorem eqAgg_of {P : Program} {t : TypeId} {x y : Value} {r : Option Bool} (h : P.eqGuardType P.depth t = false) (hd : eqDeep P 8 t x y = r) : eqAgg P t x y = r := by unfold eqAgg; rw [h]; exact hd
theorem eqDeep_struct {P : Program} {n : Nat} {t : TypeId} {fs : Array Field} {xs ys : Array Value} {r : Option Bool} (hu : P.underlying t = some (.struct fs)) (hh : P.stoodInHeld t = false) (hf : eqFs P (eqDeep P n) xs ys fs.toList = r) : eqDeep P (n + 1) t (.agg xs) (.agg ys) = r := by unfold eqDeep; rw [hu]; show (if P.stoodInHeld t = true then _ else _) = _; rw [if_neg (by rw [hh]; decide)]; exact hf
theorem eqDeep_int {P : Program} {n : Nat} {t : TypeId} {k k' : IntKind} {a b : Int} (hu : P.underlying t = some (.int k')) : eqDeep P (n + 1) t (.int k a) (.int k b) = some (decide (a = b)) := by unfold eqDeep; rw [hu]; exact if_pos rfl
theorem eqDeep_string {P : Program} {n : Nat} {t : TypeId} {a b : ByteArray} (hu : P.underlying t = some .string) : eqDeep P (n + 1) t (.string a) (.string b) = some (decide (a.toList = b.toList)) := by unfold eqDeep; rw [hu]; show some (a.toList == b.toList) = _; by_cases h : a.toList = b.toList <;> simp [h]
theorem eqFs_nil {P : Program} {r : TypeId → Value → Value → Option Bool} {xs ys : Array Value} : eqFs P r xs ys [] = some (decide True) := rfl
theorem eqFs_cons {P : Program} {r : TypeId → Value → Value → Option Bool} {xs ys : Array Value} {f : Field} {fs : List Field} {a b : Value} {c d : Prop} [Decidable c] [Decidable d] (hn : f.name ≠ "_") (ha : partP P f.type xs f.offset = some a) (hb : partP P f.type ys f.offset = some b)
    (hr : r f.type a b = some (decide c)) (ht : eqFs P r xs ys fs = some (decide d)) : eqFs P r xs ys (f :: fs) = some (decide (c ∧ d)) := by
  unfold eqFs
  rw [if_neg hn, ha, hb]
  show (match r f.type a b with | some true => _ | some false => _ | none => _) = _
  rw [hr]
  by_cases h : c
  · rw [decide_eq_true h, ht]; simp [h]
  · rw [decide_eq_false h]; simp [h]
theorem eqPart_leaf {P : Program} {t : TypeId} {cs : Array Value} {o n : Nat} {v : Value} (h : isAggT P t = some false) (hc : cellsT P t = some n) (hv : cs[o]? = some v) : partP P t cs o = some v := by unfold partP; rw [h, hc]; exact hv
theorem eqPart_agg {P : Program} {t : TypeId} {cs : Array Value} {o n : Nat} {x : Array Value} (h : isAggT P t = some true) (hc : cellsT P t = some n) (hv : cs.extract o (o + n) = x) : partP P t cs o = some (.agg x) := by unfold partP; rw [h, hc, ← hv]
theorem tb_eqU_28 : Try.prog.underlying 28 = some (.struct #[⟨"Time", 2, 0, false, "", "", 0⟩, ⟨"Value", 26, 1, false, "", "", 8⟩]) := by kernel_rfl
theorem tb_eqH_28 : Try.prog.stoodInHeld 28 = false := by kernel_rfl
theorem tb_eqA_2 : isAggT Try.prog 2 = some false := by kernel_rfl
theorem tb_eqC_2 : cellsT Try.prog 2 = some 1 := by kernel_rfl
theorem tb_eqU_2 : Try.prog.underlying 2 = some (.int .i64) := by kernel_rfl
theorem tb_eqA_26 : isAggT Try.prog 26 = some true := by kernel_rfl
theorem tb_eqC_26 : cellsT Try.prog 26 = some 2 := by kernel_rfl
theorem tb_eqU_26 : Try.prog.underlying 26 = some (.struct #[⟨"Kind", 24, 0, false, "", "", 0⟩, ⟨"N", 2, 1, false, "", "", 8⟩]) := by kernel_rfl
theorem tb_eqH_26 : Try.prog.stoodInHeld 26 = false := by kernel_rfl
theorem tb_eqA_24 : isAggT Try.prog 24 = some false := by kernel_rfl
theorem tb_eqC_24 : cellsT Try.prog 24 = some 1 := by kernel_rfl
theorem tb_eqU_24 : Try.prog.underlying 24 = some (.int .u8) := by kernel_rfl
theorem tb_eqG_28 : Try.prog.eqGuardType Try.prog.depth 28 = false := by kernel_rfl
theorem tb_eqG_26 : Try.prog.eqGuardType Try.prog.depth 26 = false := by kernel_rfl
theorem tb_eqU_141 : Try.prog.underlying 141 = some (.struct #[⟨"Key", 9, 0, false, "", "", 0⟩, ⟨"Value", 9, 1, false, "", "", 16⟩]) := by kernel_rfl
theorem tb_eqH_141 : Try.prog.stoodInHeld 141 = false := by kernel_rfl
theorem tb_eqA_9 : isAggT Try.prog 9 = some false := by kernel_rfl
theorem tb_eqC_9 : cellsT Try.prog 9 = some 1 := by kernel_rfl
theorem tb_eqU_9 : Try.prog.underlying 9 = some .string := by kernel_rfl
theorem tb_eqG_141 : Try.prog.eqGuardType Try.prog.depth 141 = false := by kernel_rfl
theorem tb_eqU_144 : Try.prog.underlying 144 = some (.struct #[⟨"Key", 9, 0, false, "", "", 0⟩, ⟨"N", 2, 1, false, "", "", 16⟩]) := by kernel_rfl
theorem tb_eqH_144 : Try.prog.stoodInHeld 144 = false := by kernel_rfl
theorem tb_eqG_144 : Try.prog.eqGuardType Try.prog.depth 144 = false := by kernel_rfl
theorem tb_eqU_149 : Try.prog.underlying 149 = some (.struct #[⟨"Op", 146, 0, false, "", "", 0⟩, ⟨"Func", 147, 1, false, "", "", 1⟩, ⟨"S", 9, 2, false, "", "", 8⟩, ⟨"N", 2, 3, false, "", "", 24⟩, ⟨"Kids", 3, 4, false, "", "", 32⟩, ⟨"Pos", 3, 5, false, "", "", 40⟩]) := by kernel_rfl
theorem tb_eqH_149 : Try.prog.stoodInHeld 149 = false := by kernel_rfl
theorem tb_eqA_146 : isAggT Try.prog 146 = some false := by kernel_rfl
theorem tb_eqC_146 : cellsT Try.prog 146 = some 1 := by kernel_rfl
theorem tb_eqU_146 : Try.prog.underlying 146 = some (.int .u8) := by kernel_rfl
theorem tb_eqA_147 : isAggT Try.prog 147 = some false := by kernel_rfl
theorem tb_eqC_147 : cellsT Try.prog 147 = some 1 := by kernel_rfl
theorem tb_eqU_147 : Try.prog.underlying 147 = some (.int .u8) := by kernel_rfl
theorem tb_eqA_3 : isAggT Try.prog 3 = some false := by kernel_rfl
theorem tb_eqC_3 : cellsT Try.prog 3 = some 1 := by kernel_rfl
theorem tb_eqU_3 : Try.prog.underlying 3 = some (.int .i64) := by kernel_rfl
theorem tb_eqG_149 : Try.prog.eqGuardType Try.prog.depth 149 = false := by kernel_rfl
theorem tb_eqU_152 : Try.prog.underlying 152 = some (.struct #[⟨"Text", 9, 0, false, "", "", 0⟩, ⟨"Pos", 3, 1, false, "", "", 16⟩]) := by kernel_rfl
theorem tb_eqH_152 : Try.prog.stoodInHeld 152 = false := by kernel_rfl
theorem tb_eqG_152 : Try.prog.eqGuardType Try.prog.depth 152 = false := by kernel_rfl
theorem tb_eqU_155 : Try.prog.underlying 155 = some (.struct #[⟨"Func", 147, 0, false, "", "", 0⟩, ⟨"Field", 9, 1, false, "", "", 8⟩]) := by kernel_rfl
theorem tb_eqH_155 : Try.prog.stoodInHeld 155 = false := by kernel_rfl
theorem tb_eqG_155 : Try.prog.eqGuardType Try.prog.depth 155 = false := by kernel_rfl
theorem tb_eqU_159 : Try.prog.underlying 159 = some (.struct #[⟨"Code", 157, 0, false, "", "", 0⟩, ⟨"A", 3, 1, false, "", "", 8⟩, ⟨"B", 3, 2, false, "", "", 16⟩]) := by kernel_rfl
theorem tb_eqH_159 : Try.prog.stoodInHeld 159 = false := by kernel_rfl
theorem tb_eqA_157 : isAggT Try.prog 157 = some false := by kernel_rfl
theorem tb_eqC_157 : cellsT Try.prog 157 = some 1 := by kernel_rfl
theorem tb_eqU_157 : Try.prog.underlying 157 = some (.int .u8) := by kernel_rfl
theorem tb_eqG_159 : Try.prog.eqGuardType Try.prog.depth 159 = false := by kernel_rfl
theorem tb_eqU_162 : Try.prog.underlying 162 = some (.struct #[⟨"Rank", 2, 0, false, "", "", 0⟩, ⟨"Name", 9, 1, false, "", "", 8⟩]) := by kernel_rfl
theorem tb_eqH_162 : Try.prog.stoodInHeld 162 = false := by kernel_rfl
theorem tb_eqG_162 : Try.prog.eqGuardType Try.prog.depth 162 = false := by kernel_rfl
theorem tb_eqU_169 : Try.prog.underlying 169 = some (.struct #[⟨"Kind", 167, 0, false, "", "", 0⟩, ⟨"Text", 9, 1, false, "", "", 8⟩, ⟨"N", 2, 2, false, "", "", 24⟩, ⟨"Pos", 3, 3, false, "", "", 32⟩]) := by kernel_rfl
theorem tb_eqH_169 : Try.prog.stoodInHeld 169 = false := by kernel_rfl
theorem tb_eqA_167 : isAggT Try.prog 167 = some false := by kernel_rfl
theorem tb_eqC_167 : cellsT Try.prog 167 = some 1 := by kernel_rfl
theorem tb_eqU_167 : Try.prog.underlying 167 = some (.int .u8) := by kernel_rfl
theorem tb_eqG_169 : Try.prog.eqGuardType Try.prog.depth 169 = false := by kernel_rfl
theorem tb_eqU_177 : Try.prog.underlying 177 = some (.struct #[⟨"Name", 9, 0, false, "", "", 0⟩, ⟨"Keep", 3, 1, false, "", "", 16⟩]) := by kernel_rfl
theorem tb_eqH_177 : Try.prog.stoodInHeld 177 = false := by kernel_rfl
theorem tb_eqG_177 : Try.prog.eqGuardType Try.prog.depth 177 = false := by kernel_rfl
theorem tb_eqS_28 (a0 b0 : Int) (a1 b1 : Int) (a2 b2 : Int) : (eqAgg Try.prog 28 (.agg #[.int .i64 a0, .int .u8 a1, .int .i64 a2]) (.agg #[.int .i64 b0, .int .u8 b1, .int .i64 b2])) = some (decide (a0 = b0 ∧ a1 = b1 ∧ a2 = b2)) := (eqAgg_of tb_eqG_28 (eqDeep_struct tb_eqU_28 tb_eqH_28 (eqFs_cons (by decide) (eqPart_leaf tb_eqA_2 tb_eqC_2 rfl) (eqPart_leaf tb_eqA_2 tb_eqC_2 rfl) (eqDeep_int tb_eqU_2) (eqFs_cons (by decide) (eqPart_agg tb_eqA_26 tb_eqC_26 rfl) (eqPart_agg tb_eqA_26 tb_eqC_26 rfl) (eqDeep_struct tb_eqU_26 tb_eqH_26 (eqFs_cons (by decide) (eqPart_leaf tb_eqA_24 tb_eqC_24 rfl) (eqPart_leaf tb_eqA_24 tb_eqC_24 rfl) (eqDeep_int tb_eqU_24) (eqFs_cons (by decide) (eqPart_leaf tb_eqA_2 tb_eqC_2 rfl) (eqPart_leaf tb_eqA_2 tb_eqC_2 rfl) (eqDeep_int tb_eqU_2) eqFs_nil))) eqFs_nil)))).trans (by simp)
theorem tb_eqS_26 (a0 b0 : Int) (a1 b1 : Int) : (eqAgg Try.prog 26 (.agg #[.int .u8 a0, .int .i64 a1]) (.agg #[.int .u8 b0, .int .i64 b1])) = some (decide (a0 = b0 ∧ a1 = b1)) := (eqAgg_of tb_eqG_26 (eqDeep_struct tb_eqU_26 tb_eqH_26 (eqFs_cons (by decide) (eqPart_leaf tb_eqA_24 tb_eqC_24 rfl) (eqPart_leaf tb_eqA_24 tb_eqC_24 rfl) (eqDeep_int tb_eqU_24) (eqFs_cons (by decide) (eqPart_leaf tb_eqA_2 tb_eqC_2 rfl) (eqPart_leaf tb_eqA_2 tb_eqC_2 rfl) (eqDeep_int tb_eqU_2) eqFs_nil)))).trans (by simp)
theorem tb_eqS_141 (a0 b0 : ByteArray) (a1 b1 : ByteArray) : (eqAgg Try.prog 141 (.agg #[.string a0, .string a1]) (.agg #[.string b0, .string b1])) = some (decide (a0.toList = b0.toList ∧ a1.toList = b1.toList)) := (eqAgg_of tb_eqG_141 (eqDeep_struct tb_eqU_141 tb_eqH_141 (eqFs_cons (by decide) (eqPart_leaf tb_eqA_9 tb_eqC_9 rfl) (eqPart_leaf tb_eqA_9 tb_eqC_9 rfl) (eqDeep_string tb_eqU_9) (eqFs_cons (by decide) (eqPart_leaf tb_eqA_9 tb_eqC_9 rfl) (eqPart_leaf tb_eqA_9 tb_eqC_9 rfl) (eqDeep_string tb_eqU_9) eqFs_nil)))).trans (by simp)
theorem tb_eqS_144 (a0 b0 : ByteArray) (a1 b1 : Int) : (eqAgg Try.prog 144 (.agg #[.string a0, .int .i64 a1]) (.agg #[.string b0, .int .i64 b1])) = some (decide (a0.toList = b0.toList ∧ a1 = b1)) := (eqAgg_of tb_eqG_144 (eqDeep_struct tb_eqU_144 tb_eqH_144 (eqFs_cons (by decide) (eqPart_leaf tb_eqA_9 tb_eqC_9 rfl) (eqPart_leaf tb_eqA_9 tb_eqC_9 rfl) (eqDeep_string tb_eqU_9) (eqFs_cons (by decide) (eqPart_leaf tb_eqA_2 tb_eqC_2 rfl) (eqPart_leaf tb_eqA_2 tb_eqC_2 rfl) (eqDeep_int tb_eqU_2) eqFs_nil)))).trans (by simp)
theorem tb_eqS_149 (a0 b0 : Int) (a1 b1 : Int) (a2 b2 : ByteArray) (a3 b3 : Int) (a4 b4 : Int) (a5 b5 : Int) : (eqAgg Try.prog 149 (.agg #[.int .u8 a0, .int .u8 a1, .string a2, .int .i64 a3, .int .i64 a4, .int .i64 a5]) (.agg #[.int .u8 b0, .int .u8 b1, .string b2, .int .i64 b3, .int .i64 b4, .int .i64 b5])) = some (decide (a0 = b0 ∧ a1 = b1 ∧ a2.toList = b2.toList ∧ a3 = b3 ∧ a4 = b4 ∧ a5 = b5)) := (eqAgg_of tb_eqG_149 (eqDeep_struct tb_eqU_149 tb_eqH_149 (eqFs_cons (by decide) (eqPart_leaf tb_eqA_146 tb_eqC_146 rfl) (eqPart_leaf tb_eqA_146 tb_eqC_146 rfl) (eqDeep_int tb_eqU_146) (eqFs_cons (by decide) (eqPart_leaf tb_eqA_147 tb_eqC_147 rfl) (eqPart_leaf tb_eqA_147 tb_eqC_147 rfl) (eqDeep_int tb_eqU_147) (eqFs_cons (by decide) (eqPart_leaf tb_eqA_9 tb_eqC_9 rfl) (eqPart_leaf tb_eqA_9 tb_eqC_9 rfl) (eqDeep_string tb_eqU_9) (eqFs_cons (by decide) (eqPart_leaf tb_eqA_2 tb_eqC_2 rfl) (eqPart_leaf tb_eqA_2 tb_eqC_2 rfl) (eqDeep_int tb_eqU_2) (eqFs_cons (by decide) (eqPart_leaf tb_eqA_3 tb_eqC_3 rfl) (eqPart_leaf tb_eqA_3 tb_eqC_3 rfl) (eqDeep_int tb_eqU_3) (eqFs_cons (by decide) (eqPart_leaf tb_eqA_3 tb_eqC_3 rfl) (eqPart_leaf tb_eqA_3 tb_eqC_3 rfl) (eqDeep_int tb_eqU_3) eqFs_nil)))))))).trans (by simp)
theorem tb_eqS_152 (a0 b0 : ByteArray) (a1 b1 : Int) : (eqAgg Try.prog 152 (.agg #[.string a0, .int .i64 a1]) (.agg #[.string b0, .int .i64 b1])) = some (decide (a0.toList = b0.toList ∧ a1 = b1)) := (eqAgg_of tb_eqG_152 (eqDeep_struct tb_eqU_152 tb_eqH_152 (eqFs_cons (by decide) (eqPart_leaf tb_eqA_9 tb_eqC_9 rfl) (eqPart_leaf tb_eqA_9 tb_eqC_9 rfl) (eqDeep_string tb_eqU_9) (eqFs_cons (by decide) (eqPart_leaf tb_eqA_3 tb_eqC_3 rfl) (eqPart_leaf tb_eqA_3 tb_eqC_3 rfl) (eqDeep_int tb_eqU_3) eqFs_nil)))).trans (by simp)
theorem tb_eqS_155 (a0 b0 : Int) (a1 b1 : ByteArray) : (eqAgg Try.prog 155 (.agg #[.int .u8 a0, .string a1]) (.agg #[.int .u8 b0, .string b1])) = some (decide (a0 = b0 ∧ a1.toList = b1.toList)) := (eqAgg_of tb_eqG_155 (eqDeep_struct tb_eqU_155 tb_eqH_155 (eqFs_cons (by decide) (eqPart_leaf tb_eqA_147 tb_eqC_147 rfl) (eqPart_leaf tb_eqA_147 tb_eqC_147 rfl) (eqDeep_int tb_eqU_147) (eqFs_cons (by decide) (eqPart_leaf tb_eqA_9 tb_eqC_9 rfl) (eqPart_leaf tb_eqA_9 tb_eqC_9 rfl) (eqDeep_string tb_eqU_9) eqFs_nil)))).trans (by simp)
theorem tb_eqS_159 (a0 b0 : Int) (a1 b1 : Int) (a2 b2 : Int) : (eqAgg Try.prog 159 (.agg #[.int .u8 a0, .int .i64 a1, .int .i64 a2]) (.agg #[.int .u8 b0, .int .i64 b1, .int .i64 b2])) = some (decide (a0 = b0 ∧ a1 = b1 ∧ a2 = b2)) := (eqAgg_of tb_eqG_159 (eqDeep_struct tb_eqU_159 tb_eqH_159 (eqFs_cons (by decide) (eqPart_leaf tb_eqA_157 tb_eqC_157 rfl) (eqPart_leaf tb_eqA_157 tb_eqC_157 rfl) (eqDeep_int tb_eqU_157) (eqFs_cons (by decide) (eqPart_leaf tb_eqA_3 tb_eqC_3 rfl) (eqPart_leaf tb_eqA_3 tb_eqC_3 rfl) (eqDeep_int tb_eqU_3) (eqFs_cons (by decide) (eqPart_leaf tb_eqA_3 tb_eqC_3 rfl) (eqPart_leaf tb_eqA_3 tb_eqC_3 rfl) (eqDeep_int tb_eqU_3) eqFs_nil))))).trans (by simp)
theorem tb_eqS_162 (a0 b0 : Int) (a1 b1 : ByteArray) : (eqAgg Try.prog 162 (.agg #[.int .i64 a0, .string a1]) (.agg #[.int .i64 b0, .string b1])) = some (decide (a0 = b0 ∧ a1.toList = b1.toList)) := (eqAgg_of tb_eqG_162 (eqDeep_struct tb_eqU_162 tb_eqH_162 (eqFs_cons (by decide) (eqPart_leaf tb_eqA_2 tb_eqC_2 rfl) (eqPart_leaf tb_eqA_2 tb_eqC_2 rfl) (eqDeep_int tb_eqU_2) (eqFs_cons (by decide) (eqPart_leaf tb_eqA_9 tb_eqC_9 rfl) (eqPart_leaf tb_eqA_9 tb_eqC_9 rfl) (eqDeep_string tb_eqU_9) eqFs_nil)))).trans (by simp)
theorem tb_eqS_169 (a0 b0 : Int) (a1 b1 : ByteArray) (a2 b2 : Int) (a3 b3 : Int) : (eqAgg Try.prog 169 (.agg #[.int .u8 a0, .string a1, .int .i64 a2, .int .i64 a3]) (.agg #[.int .u8 b0, .string b1, .int .i64 b2, .int .i64 b3])) = some (decide (a0 = b0 ∧ a1.toList = b1.toList ∧ a2 = b2 ∧ a3 = b3)) := (eqAgg_of tb_eqG_169 (eqDeep_struct tb_eqU_169 tb_eqH_169 (eqFs_cons (by decide) (eqPart_leaf tb_eqA_167 tb_eqC_167 rfl) (eqPart_leaf tb_eqA_167 tb_eqC_167 rfl) (eqDeep_int tb_eqU_167) (eqFs_cons (by decide) (eqPart_leaf tb_eqA_9 tb_eqC_9 rfl) (eqPart_leaf tb_eqA_9 tb_eqC_9 rfl) (eqDeep_string tb_eqU_9) (eqFs_cons (by decide) (eqPart_leaf tb_eqA_2 tb_eqC_2 rfl) (eqPart_leaf tb_eqA_2 tb_eqC_2 rfl) (eqDeep_int tb_eqU_2) (eqFs_cons (by decide) (eqPart_leaf tb_eqA_3 tb_eqC_3 rfl) (eqPart_leaf tb_eqA_3 tb_eqC_3 rfl) (eqDeep_int tb_eqU_3) eqFs_nil)))))).trans (by simp)
theorem tb_eqS_177 (a0 b0 : ByteArray) (a1 b1 : Int) : (eqAgg Try.prog 177 (.agg #[.string a0, .int .i64 a1]) (.agg #[.string b0, .int .i64 b1])) = some (decide (a0.toList = b0.toList ∧ a1 = b1)) := (eqAgg_of tb_eqG_177 (eqDeep_struct tb_eqU_177 tb_eqH_177 (eqFs_cons (by decide) (eqPart_leaf tb_eqA_9 tb_eqC_9 rfl) (eqPart_leaf tb_eqA_9 tb_eqC_9 rfl) (eqDeep_string tb_eqU_9) (eqFs_cons (by decide) (eqPart_leaf tb_eqA_3 tb_eqC_3 rfl) (eqPart_leaf tb_eqA_3 tb_eqC_3 rfl) (eqDeep_int tb_eqU_3) eqFs_nil)))).trans (by simp)
/- all facts that one function's walk wants. -/
abbrev tf2 := (And.intro @tb_res_2 @tb_callable_1)
abbrev tf3 := (And.intro (And.intro (And.intro @tb_res_3 @tb_callable_8) (And.intro @tb_buildT_26 @tb_buildT_28)) (And.intro (And.intro @tb_bsT_23_1 @tb_callable_9) (And.intro @tb_eqT_31 @tb_lenT_29)))
abbrev tf4 := (And.intro (And.intro (And.intro @tb_res_4 (And.intro @tb_callable_9 @tb_eqT_31)) (And.intro @tb_callable_10 (And.intro @tb_zeroT_37 @tb_isAggT_37))) (And.intro (And.intro @tb_cellsT_37 (And.intro @tb_callable_8 @tb_fieldOff_37_0)) (And.intro (And.intro @tb_isAggT_35 @tb_cellsT_35) (And.intro @tb_callable_11 @tb_callable_12))))
abbrev tf5 := (And.intro (And.intro @tb_res_5 (And.intro @tb_callable_11 @tb_eqT_31)) (And.intro (And.intro @tb_callable_8 @tb_lenT_23) (And.intro @tb_callable_9 @tb_callable_13)))
abbrev tf6 := (And.intro (And.intro (And.intro @tb_res_6 @tb_callable_9) (And.intro @tb_eqT_31 @tb_lenT_29)) (And.intro (And.intro @tb_callable_8 @tb_indexT_29) (And.intro @tb_callable_11 @tb_lenT_23)))
abbrev tf7 := (And.intro (And.intro (And.intro (And.intro @tb_res_7 @tb_zeroT_76) (And.intro @tb_lenT_23 (And.intro @tb_indexT_23 @tb_fieldOff_28_0))) (And.intro (And.intro @tb_isAggT_2 (And.intro @tb_cellsT_2 @tb_bsT_77_1)) (And.intro @tb_fieldOff_28_1 (And.intro @tb_isAggT_26 @tb_cellsT_26)))) (And.intro (And.intro (And.intro @tb_bsT_78_1 @tb_callable_14) (And.intro @tb_callable_15 (And.intro @tb_callable_9 @tb_callable_16))) (And.intro (And.intro @tb_callable_11 (And.intro @tb_callable_17 @tb_callable_18)) (And.intro @tb_callable_19 (And.intro @tb_callable_8 @tb_callable_20)))))
abbrev tf8 := (And.intro (And.intro (And.intro @tb_res_8 @tb_bsT_77_3) (And.intro @tb_callable_14 (And.intro @tb_buildT_26 @tb_bsT_78_1))) (And.intro (And.intro @tb_callable_15 @tb_eqT_31) (And.intro @tb_bsT_29_5 (And.intro @tb_callable_13 @tb_bsT_29_3))))
abbrev tf9 := (And.intro (And.intro (And.intro (And.intro @tb_res_9 @tb_lenT_23) (And.intro @tb_indexT_23 (And.intro @tb_isAggT_28 @tb_cellsT_28))) (And.intro (And.intro @tb_zeroT_28 @tb_fieldOff_28_0) (And.intro @tb_isAggT_2 (And.intro @tb_cellsT_2 @tb_bsT_77_1)))) (And.intro (And.intro (And.intro @tb_fieldOff_28_1 @tb_isAggT_26) (And.intro @tb_cellsT_26 (And.intro @tb_bsT_78_1 @tb_callable_14))) (And.intro (And.intro @tb_eqT_31 @tb_callable_15) (And.intro @tb_zeroT_87 (And.intro @tb_callable_21 @tb_callable_22)))))
abbrev tf10 := (And.intro (And.intro (And.intro (And.intro @tb_res_10 (And.intro @tb_isAggT_37 @tb_cellsT_37)) (And.intro @tb_zeroT_37 (And.intro @tb_lenT_23 @tb_indexT_23))) (And.intro (And.intro @tb_fieldOff_28_0 (And.intro @tb_isAggT_2 @tb_cellsT_2)) (And.intro (And.intro @tb_bsT_77_1 @tb_fieldOff_28_1) (And.intro @tb_isAggT_26 @tb_cellsT_26)))) (And.intro (And.intro (And.intro @tb_bsT_78_1 (And.intro @tb_callable_23 @tb_fieldOff_37_0)) (And.intro @tb_isAggT_35 (And.intro @tb_cellsT_35 @tb_callable_24))) (And.intro (And.intro @tb_buildT_93 (And.intro @tb_zeroT_93 @tb_callable_25)) (And.intro (And.intro @tb_fieldOff_93_0 @tb_isAggT_29) (And.intro @tb_cellsT_29 @tb_buildT_37)))))
abbrev tf11 := (And.intro (And.intro (And.intro (And.intro @tb_res_11 @tb_callable_26) (And.intro @tb_callable_27 @tb_callable_28)) (And.intro (And.intro @tb_eqT_31 @tb_callable_16) (And.intro @tb_callable_29 (And.intro @tb_lenT_77 @tb_lenT_78)))) (And.intro (And.intro (And.intro @tb_callable_30 @tb_indexT_77) (And.intro @tb_isAggT_2 @tb_cellsT_2)) (And.intro (And.intro @tb_indexT_78 @tb_isAggT_26) (And.intro @tb_cellsT_26 (And.intro @tb_buildT_28 @tb_bsT_23_1)))))
abbrev tf12 := (And.intro (And.intro @tb_res_12 (And.intro @tb_lenT_23 @tb_indexT_23)) (And.intro (And.intro @tb_isAggT_28 @tb_cellsT_28) (And.intro @tb_eqT_28 @tb_eqS_28)))
abbrev tf13 := (And.intro (And.intro @tb_res_13 @tb_lenT_29) (And.intro @tb_indexT_29 (And.intro @tb_isAggT_5 @tb_cellsT_5)))
abbrev tf14 := (And.intro (And.intro (And.intro @tb_res_14 (And.intro @tb_lenT_77 @tb_callable_30)) (And.intro (And.intro @tb_zeroT_87 @tb_convT_3_102) (And.intro @tb_callable_31 @tb_indexT_77))) (And.intro (And.intro @tb_isAggT_2 (And.intro @tb_cellsT_2 @tb_callable_32)) (And.intro (And.intro @tb_convT_2_102 @tb_convT_102_2) (And.intro @tb_callable_33 @tb_callable_22))))
abbrev tf15 := (And.intro (And.intro (And.intro (And.intro @tb_res_15 @tb_lenT_78) (And.intro @tb_callable_30 (And.intro @tb_zeroT_87 @tb_convT_3_102))) (And.intro (And.intro @tb_callable_31 (And.intro @tb_zeroT_26 @tb_indexT_78)) (And.intro @tb_isAggT_26 (And.intro @tb_cellsT_26 @tb_callable_34)))) (And.intro (And.intro (And.intro @tb_eqT_26 (And.intro @tb_eqS_26 @tb_callable_35)) (And.intro @tb_fieldOff_26_0 (And.intro @tb_isAggT_24 @tb_cellsT_24))) (And.intro (And.intro @tb_fieldOff_26_1 (And.intro @tb_isAggT_2 @tb_cellsT_2)) (And.intro @tb_callable_36 (And.intro @tb_callable_37 @tb_callable_22)))))
abbrev tf16 := (And.intro (And.intro (And.intro (And.intro @tb_res_16 @tb_callable_26) (And.intro @tb_callable_38 @tb_convT_102_3)) (And.intro (And.intro @tb_callable_39 @tb_eqT_31) (And.intro @tb_callable_40 (And.intro @tb_bsT_77_1 @tb_callable_41)))) (And.intro (And.intro (And.intro @tb_convT_2_102 @tb_indexT_77) (And.intro @tb_isAggT_2 @tb_cellsT_2)) (And.intro (And.intro @tb_convT_102_2 @tb_callable_28) (And.intro @tb_callable_14 (And.intro @tb_callable_42 @tb_callable_30)))))
abbrev tf17 := (And.intro (And.intro @tb_res_17 @tb_fieldOff_76_0) (And.intro @tb_isAggT_47 (And.intro @tb_cellsT_47 @tb_bsT_47_1)))
abbrev tf18 := (And.intro (And.intro @tb_res_18 @tb_fieldOff_76_3) (And.intro @tb_isAggT_50 (And.intro @tb_cellsT_50 @tb_bsT_50_1)))
abbrev tf19 := (And.intro (And.intro @tb_res_19 @tb_fieldOff_76_7) (And.intro @tb_isAggT_54 (And.intro @tb_cellsT_54 @tb_bsT_54_1)))
abbrev tf20 := (And.intro (And.intro (And.intro (And.intro (And.intro @tb_res_20 @tb_callable_43) (And.intro @tb_callable_44 @tb_callable_45)) (And.intro (And.intro @tb_callable_46 @tb_callable_47) (And.intro @tb_callable_48 @tb_callable_49))) (And.intro (And.intro (And.intro @tb_callable_50 @tb_callable_51) (And.intro @tb_callable_52 @tb_callable_53)) (And.intro (And.intro @tb_callable_54 @tb_callable_55) (And.intro @tb_callable_56 @tb_callable_57)))) (And.intro (And.intro (And.intro (And.intro @tb_callable_58 @tb_callable_59) (And.intro @tb_callable_60 @tb_callable_61)) (And.intro (And.intro @tb_callable_62 @tb_callable_63) (And.intro @tb_callable_64 @tb_callable_65))) (And.intro (And.intro (And.intro @tb_callable_66 @tb_callable_67) (And.intro @tb_callable_68 @tb_callable_69)) (And.intro (And.intro @tb_callable_70 @tb_buildT_76) (And.intro @tb_isAggT_76 @tb_cellsT_76)))))
abbrev tf21 := (And.intro (And.intro @tb_res_21 @tb_lenT_29) (And.intro @tb_convT_3_102 (And.intro @tb_callable_31 @tb_callable_71)))
abbrev tf22 := (And.intro (And.intro @tb_res_22 (And.intro @tb_eqT_105 @tb_fieldOff_87_0)) (And.intro @tb_isAggT_29 (And.intro @tb_cellsT_29 @tb_callable_72)))
abbrev tf23 := (And.intro (And.intro (And.intro (And.intro @tb_res_23 @tb_isAggT_37) (And.intro @tb_cellsT_37 (And.intro @tb_zeroT_37 @tb_lenT_77))) (And.intro (And.intro @tb_callable_73 (And.intro @tb_callable_74 @tb_buildT_93)) (And.intro @tb_zeroT_93 (And.intro @tb_convT_3_102 @tb_callable_75)))) (And.intro (And.intro (And.intro @tb_indexT_77 (And.intro @tb_isAggT_2 @tb_cellsT_2)) (And.intro @tb_callable_76 (And.intro @tb_convT_2_102 @tb_convT_102_2))) (And.intro (And.intro @tb_callable_77 (And.intro @tb_callable_78 @tb_fieldOff_93_0)) (And.intro @tb_isAggT_29 (And.intro @tb_cellsT_29 @tb_buildT_37)))))
abbrev tf24 := (And.intro (And.intro (And.intro (And.intro (And.intro @tb_res_24 @tb_isAggT_37) (And.intro @tb_cellsT_37 @tb_zeroT_37)) (And.intro (And.intro @tb_lenT_78 @tb_callable_73) (And.intro @tb_buildT_93 @tb_zeroT_93))) (And.intro (And.intro (And.intro @tb_convT_3_102 @tb_callable_75) (And.intro @tb_buildT_26 @tb_zeroT_26)) (And.intro (And.intro @tb_isAggT_26 @tb_cellsT_26) (And.intro @tb_indexT_78 (And.intro @tb_callable_79 @tb_eqT_26))))) (And.intro (And.intro (And.intro (And.intro @tb_eqS_26 @tb_callable_78) (And.intro @tb_fieldOff_26_0 @tb_isAggT_24)) (And.intro (And.intro @tb_cellsT_24 @tb_fieldOff_26_1) (And.intro @tb_isAggT_2 @tb_cellsT_2))) (And.intro (And.intro (And.intro @tb_convT_2_102 @tb_convT_102_2) (And.intro @tb_callable_80 @tb_callable_81)) (And.intro (And.intro @tb_convT_24_102 @tb_fieldOff_93_0) (And.intro @tb_isAggT_29 (And.intro @tb_cellsT_29 @tb_buildT_37))))))
abbrev tf25 := (And.intro (And.intro (And.intro @tb_res_25 @tb_lenT_29) (And.intro @tb_convT_3_102 @tb_callable_75)) (And.intro (And.intro @tb_indexT_29 @tb_isAggT_5) (And.intro @tb_cellsT_5 @tb_callable_82)))
abbrev tf26 := (And.intro (And.intro @tb_res_26 @tb_callable_72) (And.intro @tb_buildT_122 (And.intro @tb_buildT_124 @tb_zeroT_124)))
abbrev tf27 := (And.intro @tb_res_27 (And.intro @tb_callable_83 @tb_callable_72))
abbrev tf28 := (And.intro (And.intro (And.intro @tb_res_28 @tb_callable_39) (And.intro @tb_eqT_31 (And.intro @tb_fieldOff_124_0 @tb_callable_84))) (And.intro (And.intro @tb_fieldOff_122_1 @tb_isAggT_3) (And.intro @tb_cellsT_3 (And.intro @tb_callable_85 @tb_callable_86))))
abbrev tf29 := (And.intro (And.intro (And.intro (And.intro @tb_res_29 @tb_callable_26) (And.intro @tb_callable_38 (And.intro @tb_convT_102_3 @tb_zeroT_26))) (And.intro (And.intro @tb_lenT_78 (And.intro @tb_callable_39 @tb_eqT_31)) (And.intro @tb_isAggT_26 (And.intro @tb_cellsT_26 @tb_callable_87)))) (And.intro (And.intro (And.intro @tb_fieldOff_26_0 @tb_isAggT_24) (And.intro @tb_cellsT_24 (And.intro @tb_fieldOff_26_1 @tb_isAggT_2))) (And.intro (And.intro @tb_cellsT_2 (And.intro @tb_bsT_78_1 @tb_callable_28)) (And.intro @tb_callable_15 (And.intro @tb_callable_42 @tb_callable_30)))))
abbrev tf30 := (And.intro @tb_res_30 @tb_ifaceT_35)
abbrev tf31 := (And.intro (And.intro @tb_res_31 @tb_convT_102_5) (And.intro @tb_bsT_29_1 @tb_callable_71))
abbrev tf32 := (And.intro @tb_res_32 (And.intro @tb_convT_2_102 @tb_callable_31))
abbrev tf33 := (And.intro (And.intro (And.intro (And.intro @tb_res_33 @tb_callable_88) (And.intro @tb_lenT_129 @tb_indexT_129)) (And.intro (And.intro @tb_isAggT_132 @tb_cellsT_132) (And.intro @tb_zeroT_132 (And.intro @tb_fieldOff_132_2 @tb_isAggT_2)))) (And.intro (And.intro (And.intro @tb_cellsT_2 @tb_fieldOff_132_3) (And.intro @tb_fieldOff_132_0 (And.intro @tb_isAggT_3 @tb_cellsT_3))) (And.intro (And.intro @tb_convT_3_102 @tb_fieldOff_132_1) (And.intro @tb_callable_35 (And.intro @tb_convT_2_102 @tb_fieldOff_132_4)))))
abbrev tf34 := (And.intro (And.intro (And.intro @tb_res_34 @tb_zeroT_26) (And.intro @tb_fieldOff_26_0 @tb_isAggT_24)) (And.intro (And.intro @tb_cellsT_24 @tb_fieldOff_26_1) (And.intro @tb_isAggT_2 @tb_cellsT_2)))
abbrev tf35 := (And.intro (And.intro (And.intro @tb_res_35 (And.intro @tb_eqT_105 @tb_fieldOff_87_1)) (And.intro (And.intro @tb_isAggT_3 @tb_cellsT_3) (And.intro @tb_fieldOff_87_0 @tb_isAggT_29))) (And.intro (And.intro @tb_cellsT_29 (And.intro @tb_bsT_29_1 @tb_lenT_29)) (And.intro (And.intro @tb_indexT_29 @tb_isAggT_5) (And.intro @tb_cellsT_5 @tb_convT_102_5))))
abbrev tf36 := (And.intro @tb_res_36 @tb_convT_2_102)
abbrev tf37 := (And.intro (And.intro @tb_res_37 @tb_convT_102_5) (And.intro @tb_indexT_9 @tb_convT_5_3))
abbrev tf38 := (And.intro @tb_res_38 @tb_callable_89)
abbrev tf39 := (And.intro (And.intro @tb_res_39 (And.intro @tb_eqT_94 @tb_callable_30)) (And.intro @tb_fieldOff_124_1 (And.intro @tb_isAggT_31 @tb_cellsT_31)))
abbrev tf40 := (And.intro @tb_res_40 (And.intro @tb_callable_89 @tb_convT_102_2))
abbrev tf41 := (And.intro (And.intro (And.intro @tb_res_41 (And.intro @tb_callable_88 @tb_lenT_129)) (And.intro (And.intro @tb_indexT_129 @tb_isAggT_132) (And.intro @tb_cellsT_132 @tb_zeroT_132))) (And.intro (And.intro (And.intro @tb_callable_90 @tb_fieldOff_132_4) (And.intro @tb_isAggT_3 @tb_cellsT_3)) (And.intro (And.intro @tb_convT_102_2 @tb_fieldOff_132_2) (And.intro @tb_isAggT_2 @tb_cellsT_2))))
abbrev tf42 := (And.intro @tb_res_42 @tb_convT_29_9)
abbrev tf43 := (And.intro (And.intro (And.intro @tb_res_43 (And.intro @tb_fieldOff_76_0 @tb_isAggT_47)) (And.intro (And.intro @tb_cellsT_47 @tb_lenT_47) (And.intro @tb_indexT_47 @tb_isAggT_29))) (And.intro (And.intro (And.intro @tb_cellsT_29 @tb_lenT_29) (And.intro @tb_convT_3_5 @tb_indexT_29)) (And.intro (And.intro @tb_isAggT_5 @tb_cellsT_5) (And.intro @tb_bsT_29_1 @tb_bsT_47_1))))
abbrev tf44 := (And.intro (And.intro (And.intro @tb_res_44 (And.intro @tb_fieldOff_76_1 @tb_isAggT_48)) (And.intro (And.intro @tb_cellsT_48 @tb_lenT_48) (And.intro @tb_indexT_48 @tb_isAggT_135))) (And.intro (And.intro (And.intro @tb_cellsT_135 @tb_lenT_135) (And.intro @tb_callable_91 @tb_indexT_135)) (And.intro (And.intro @tb_isAggT_9 @tb_cellsT_9) (And.intro @tb_bsT_135_1 @tb_bsT_48_1))))
abbrev tf45 := (And.intro (And.intro (And.intro @tb_res_45 (And.intro @tb_fieldOff_76_2 @tb_isAggT_49)) (And.intro (And.intro @tb_cellsT_49 @tb_lenT_49) (And.intro @tb_indexT_49 @tb_isAggT_137))) (And.intro (And.intro @tb_cellsT_137 (And.intro @tb_lenT_137 @tb_indexT_137)) (And.intro (And.intro @tb_isAggT_3 @tb_cellsT_3) (And.intro @tb_bsT_137_1 @tb_bsT_49_1))))
abbrev tf46 := (And.intro (And.intro (And.intro @tb_res_46 (And.intro @tb_fieldOff_76_3 @tb_isAggT_50)) (And.intro (And.intro @tb_cellsT_50 @tb_lenT_50) (And.intro @tb_indexT_50 @tb_isAggT_77))) (And.intro (And.intro @tb_cellsT_77 (And.intro @tb_lenT_77 @tb_indexT_77)) (And.intro (And.intro @tb_isAggT_2 @tb_cellsT_2) (And.intro @tb_bsT_77_1 @tb_bsT_50_1))))
abbrev tf47 := (And.intro (And.intro (And.intro @tb_res_47 (And.intro @tb_fieldOff_76_4 @tb_isAggT_51)) (And.intro (And.intro @tb_cellsT_51 @tb_lenT_51) (And.intro @tb_indexT_51 @tb_isAggT_138))) (And.intro (And.intro (And.intro @tb_cellsT_138 @tb_lenT_138) (And.intro @tb_convT_3_102 @tb_indexT_138)) (And.intro (And.intro @tb_isAggT_102 @tb_cellsT_102) (And.intro @tb_bsT_138_1 @tb_bsT_51_1))))
abbrev tf48 := (And.intro (And.intro (And.intro (And.intro @tb_res_48 @tb_fieldOff_76_5) (And.intro @tb_isAggT_52 @tb_cellsT_52)) (And.intro (And.intro @tb_lenT_52 @tb_indexT_52) (And.intro @tb_isAggT_139 (And.intro @tb_cellsT_139 @tb_lenT_139)))) (And.intro (And.intro (And.intro @tb_callable_91 @tb_buildT_141) (And.intro @tb_indexT_139 (And.intro @tb_isAggT_141 @tb_cellsT_141))) (And.intro (And.intro @tb_bsT_139_1 @tb_bsT_52_1) (And.intro @tb_zeroT_141 (And.intro @tb_eqT_141 @tb_eqS_141)))))
abbrev tf49 := (And.intro (And.intro (And.intro (And.intro @tb_res_49 @tb_fieldOff_76_6) (And.intro @tb_isAggT_53 @tb_cellsT_53)) (And.intro (And.intro @tb_lenT_53 @tb_indexT_53) (And.intro @tb_isAggT_142 (And.intro @tb_cellsT_142 @tb_lenT_142)))) (And.intro (And.intro (And.intro @tb_callable_91 @tb_buildT_144) (And.intro @tb_indexT_142 (And.intro @tb_isAggT_144 @tb_cellsT_144))) (And.intro (And.intro @tb_bsT_142_1 @tb_bsT_53_1) (And.intro @tb_zeroT_144 (And.intro @tb_eqT_144 @tb_eqS_144)))))
abbrev tf50 := (And.intro (And.intro (And.intro (And.intro @tb_res_50 @tb_fieldOff_76_7) (And.intro @tb_isAggT_54 @tb_cellsT_54)) (And.intro (And.intro @tb_lenT_54 @tb_indexT_54) (And.intro @tb_isAggT_23 (And.intro @tb_cellsT_23 @tb_lenT_23)))) (And.intro (And.intro (And.intro @tb_buildT_28 @tb_indexT_23) (And.intro @tb_isAggT_28 @tb_cellsT_28)) (And.intro (And.intro @tb_bsT_23_1 @tb_bsT_54_1) (And.intro @tb_zeroT_28 (And.intro @tb_eqT_28 @tb_eqS_28)))))
abbrev tf51 := (And.intro (And.intro (And.intro (And.intro @tb_res_51 @tb_fieldOff_76_8) (And.intro @tb_isAggT_55 @tb_cellsT_55)) (And.intro (And.intro @tb_lenT_55 @tb_indexT_55) (And.intro @tb_isAggT_145 (And.intro @tb_cellsT_145 @tb_lenT_145)))) (And.intro (And.intro (And.intro @tb_buildT_149 @tb_indexT_145) (And.intro @tb_isAggT_149 @tb_cellsT_149)) (And.intro (And.intro @tb_bsT_145_1 @tb_bsT_55_1) (And.intro @tb_zeroT_149 (And.intro @tb_eqT_149 @tb_eqS_149)))))
abbrev tf52 := (And.intro (And.intro (And.intro (And.intro @tb_res_52 @tb_fieldOff_76_9) (And.intro @tb_isAggT_56 @tb_cellsT_56)) (And.intro (And.intro @tb_lenT_56 @tb_indexT_56) (And.intro @tb_isAggT_150 (And.intro @tb_cellsT_150 @tb_lenT_150)))) (And.intro (And.intro (And.intro @tb_callable_91 @tb_buildT_152) (And.intro @tb_indexT_150 (And.intro @tb_isAggT_152 @tb_cellsT_152))) (And.intro (And.intro @tb_bsT_150_1 @tb_bsT_56_1) (And.intro @tb_zeroT_152 (And.intro @tb_eqT_152 @tb_eqS_152)))))
abbrev tf53 := (And.intro (And.intro (And.intro (And.intro @tb_res_53 @tb_fieldOff_76_10) (And.intro @tb_isAggT_57 @tb_cellsT_57)) (And.intro (And.intro @tb_lenT_57 @tb_indexT_57) (And.intro @tb_isAggT_153 (And.intro @tb_cellsT_153 @tb_lenT_153)))) (And.intro (And.intro (And.intro @tb_callable_91 @tb_buildT_155) (And.intro @tb_indexT_153 (And.intro @tb_isAggT_155 @tb_cellsT_155))) (And.intro (And.intro @tb_bsT_153_1 @tb_bsT_57_1) (And.intro @tb_zeroT_155 (And.intro @tb_eqT_155 @tb_eqS_155)))))
abbrev tf54 := (And.intro (And.intro (And.intro (And.intro @tb_res_54 @tb_fieldOff_76_11) (And.intro @tb_isAggT_58 @tb_cellsT_58)) (And.intro (And.intro @tb_lenT_58 @tb_indexT_58) (And.intro @tb_isAggT_156 (And.intro @tb_cellsT_156 @tb_lenT_156)))) (And.intro (And.intro (And.intro @tb_buildT_159 @tb_indexT_156) (And.intro @tb_isAggT_159 @tb_cellsT_159)) (And.intro (And.intro @tb_bsT_156_1 @tb_bsT_58_1) (And.intro @tb_zeroT_159 (And.intro @tb_eqT_159 @tb_eqS_159)))))
abbrev tf55 := (And.intro (And.intro (And.intro (And.intro @tb_res_55 @tb_fieldOff_76_12) (And.intro @tb_isAggT_59 @tb_cellsT_59)) (And.intro (And.intro @tb_lenT_59 @tb_indexT_59) (And.intro @tb_isAggT_160 (And.intro @tb_cellsT_160 @tb_lenT_160)))) (And.intro (And.intro (And.intro @tb_callable_91 @tb_buildT_162) (And.intro @tb_indexT_160 (And.intro @tb_isAggT_162 @tb_cellsT_162))) (And.intro (And.intro @tb_bsT_160_1 @tb_bsT_59_1) (And.intro @tb_zeroT_162 (And.intro @tb_eqT_162 @tb_eqS_162)))))
abbrev tf56 := (And.intro (And.intro (And.intro (And.intro @tb_res_56 @tb_fieldOff_76_13) (And.intro @tb_isAggT_60 @tb_cellsT_60)) (And.intro (And.intro @tb_lenT_60 @tb_indexT_60) (And.intro @tb_isAggT_163 (And.intro @tb_cellsT_163 @tb_lenT_163)))) (And.intro (And.intro (And.intro @tb_buildT_26 @tb_buildT_165) (And.intro @tb_indexT_163 @tb_isAggT_165)) (And.intro (And.intro @tb_cellsT_165 @tb_bsT_163_1) (And.intro @tb_bsT_60_1 (And.intro @tb_zeroT_165 @tb_eqT_165)))))
abbrev tf57 := (And.intro (And.intro (And.intro (And.intro @tb_res_57 @tb_fieldOff_76_14) (And.intro @tb_isAggT_61 @tb_cellsT_61)) (And.intro (And.intro @tb_lenT_61 @tb_indexT_61) (And.intro @tb_isAggT_166 (And.intro @tb_cellsT_166 @tb_lenT_166)))) (And.intro (And.intro (And.intro @tb_callable_91 @tb_buildT_169) (And.intro @tb_indexT_166 (And.intro @tb_isAggT_169 @tb_cellsT_169))) (And.intro (And.intro @tb_bsT_166_1 @tb_bsT_61_1) (And.intro @tb_zeroT_169 (And.intro @tb_eqT_169 @tb_eqS_169)))))
abbrev tf58 := (And.intro (And.intro (And.intro (And.intro @tb_res_58 @tb_fieldOff_76_15) (And.intro @tb_isAggT_62 @tb_cellsT_62)) (And.intro (And.intro @tb_lenT_62 @tb_indexT_62) (And.intro @tb_isAggT_170 @tb_cellsT_170))) (And.intro (And.intro (And.intro @tb_lenT_170 @tb_buildT_174) (And.intro @tb_indexT_170 @tb_isAggT_174)) (And.intro (And.intro @tb_cellsT_174 @tb_bsT_170_1) (And.intro @tb_bsT_62_1 (And.intro @tb_zeroT_174 @tb_eqT_174)))))
abbrev tf59 := (And.intro (And.intro (And.intro (And.intro @tb_res_59 @tb_fieldOff_76_16) (And.intro @tb_isAggT_63 @tb_cellsT_63)) (And.intro (And.intro @tb_lenT_63 @tb_indexT_63) (And.intro @tb_isAggT_175 (And.intro @tb_cellsT_175 @tb_lenT_175)))) (And.intro (And.intro (And.intro @tb_callable_91 @tb_buildT_177) (And.intro @tb_indexT_175 (And.intro @tb_isAggT_177 @tb_cellsT_177))) (And.intro (And.intro @tb_bsT_175_1 @tb_bsT_63_1) (And.intro @tb_zeroT_177 (And.intro @tb_eqT_177 @tb_eqS_177)))))
abbrev tf60 := (And.intro (And.intro (And.intro (And.intro @tb_res_60 @tb_fieldOff_76_17) (And.intro @tb_isAggT_64 (And.intro @tb_cellsT_64 @tb_lenT_64))) (And.intro (And.intro @tb_indexT_64 @tb_isAggT_178) (And.intro @tb_cellsT_178 (And.intro @tb_lenT_178 @tb_callable_91)))) (And.intro (And.intro (And.intro @tb_buildT_180 @tb_indexT_178) (And.intro @tb_isAggT_180 (And.intro @tb_cellsT_180 @tb_bsT_178_1))) (And.intro (And.intro @tb_bsT_64_1 @tb_zeroT_180) (And.intro @tb_fieldOff_180_0 (And.intro @tb_isAggT_9 @tb_cellsT_9)))))
abbrev tf61 := (And.intro (And.intro (And.intro (And.intro @tb_res_61 @tb_fieldOff_76_18) (And.intro @tb_isAggT_65 (And.intro @tb_cellsT_65 @tb_lenT_65))) (And.intro (And.intro @tb_indexT_65 @tb_isAggT_181) (And.intro @tb_cellsT_181 (And.intro @tb_lenT_181 @tb_buildT_28)))) (And.intro (And.intro (And.intro @tb_buildT_185 @tb_indexT_181) (And.intro @tb_isAggT_185 (And.intro @tb_cellsT_185 @tb_bsT_181_1))) (And.intro (And.intro @tb_bsT_65_1 (And.intro @tb_zeroT_185 @tb_fieldOff_185_1)) (And.intro @tb_fieldOff_28_0 (And.intro @tb_isAggT_2 @tb_cellsT_2)))))
abbrev tf62 := (And.intro (And.intro (And.intro (And.intro @tb_res_62 @tb_fieldOff_76_19) (And.intro @tb_isAggT_66 @tb_cellsT_66)) (And.intro (And.intro @tb_lenT_66 @tb_indexT_66) (And.intro @tb_isAggT_186 (And.intro @tb_cellsT_186 @tb_lenT_186)))) (And.intro (And.intro (And.intro @tb_buildT_188 @tb_indexT_186) (And.intro @tb_isAggT_188 (And.intro @tb_cellsT_188 @tb_bsT_186_1))) (And.intro (And.intro @tb_bsT_66_1 @tb_zeroT_188) (And.intro @tb_fieldOff_188_1 (And.intro @tb_isAggT_2 @tb_cellsT_2)))))
abbrev tf63 := (And.intro (And.intro (And.intro (And.intro @tb_res_63 @tb_fieldOff_76_20) (And.intro @tb_isAggT_67 (And.intro @tb_cellsT_67 @tb_lenT_67))) (And.intro (And.intro @tb_indexT_67 @tb_isAggT_189) (And.intro @tb_cellsT_189 (And.intro @tb_lenT_189 @tb_callable_91)))) (And.intro (And.intro (And.intro @tb_buildT_183 @tb_indexT_189) (And.intro @tb_isAggT_183 (And.intro @tb_cellsT_183 @tb_bsT_189_1))) (And.intro (And.intro @tb_bsT_67_1 @tb_zeroT_183) (And.intro @tb_fieldOff_183_0 (And.intro @tb_isAggT_9 @tb_cellsT_9)))))
abbrev tf64 := (And.intro (And.intro (And.intro (And.intro @tb_res_64 @tb_fieldOff_76_21) (And.intro @tb_isAggT_68 @tb_cellsT_68)) (And.intro (And.intro @tb_lenT_68 @tb_indexT_68) (And.intro @tb_isAggT_190 (And.intro @tb_cellsT_190 @tb_lenT_190)))) (And.intro (And.intro (And.intro @tb_buildT_192 @tb_indexT_190) (And.intro @tb_isAggT_192 (And.intro @tb_cellsT_192 @tb_bsT_190_1))) (And.intro (And.intro @tb_bsT_68_1 @tb_zeroT_192) (And.intro @tb_fieldOff_192_2 (And.intro @tb_isAggT_3 @tb_cellsT_3)))))
abbrev tf65 := (And.intro (And.intro (And.intro (And.intro @tb_res_65 @tb_fieldOff_76_22) (And.intro @tb_isAggT_69 (And.intro @tb_cellsT_69 @tb_lenT_69))) (And.intro (And.intro @tb_indexT_69 @tb_isAggT_193) (And.intro @tb_cellsT_193 (And.intro @tb_lenT_193 @tb_callable_91)))) (And.intro (And.intro (And.intro @tb_buildT_195 @tb_indexT_193) (And.intro @tb_isAggT_195 (And.intro @tb_cellsT_195 @tb_bsT_193_1))) (And.intro (And.intro @tb_bsT_69_1 @tb_zeroT_195) (And.intro @tb_fieldOff_195_0 (And.intro @tb_isAggT_9 @tb_cellsT_9)))))
abbrev tf66 := (And.intro (And.intro (And.intro (And.intro @tb_res_66 @tb_fieldOff_76_23) (And.intro @tb_isAggT_70 (And.intro @tb_cellsT_70 @tb_lenT_70))) (And.intro (And.intro @tb_indexT_70 @tb_isAggT_196) (And.intro @tb_cellsT_196 (And.intro @tb_lenT_196 @tb_callable_91)))) (And.intro (And.intro (And.intro @tb_buildT_198 @tb_indexT_196) (And.intro @tb_isAggT_198 (And.intro @tb_cellsT_198 @tb_bsT_196_1))) (And.intro (And.intro @tb_bsT_70_1 @tb_zeroT_198) (And.intro @tb_fieldOff_198_0 (And.intro @tb_isAggT_9 @tb_cellsT_9)))))
abbrev tf67 := (And.intro (And.intro (And.intro (And.intro @tb_res_67 @tb_fieldOff_76_24) (And.intro @tb_isAggT_71 (And.intro @tb_cellsT_71 @tb_lenT_71))) (And.intro (And.intro @tb_indexT_71 @tb_isAggT_48) (And.intro @tb_cellsT_48 (And.intro @tb_lenT_48 @tb_callable_91)))) (And.intro (And.intro (And.intro @tb_bsT_135_1 @tb_indexT_48) (And.intro @tb_isAggT_135 (And.intro @tb_cellsT_135 @tb_bsT_48_1))) (And.intro (And.intro @tb_bsT_71_1 @tb_lenT_135) (And.intro @tb_indexT_135 (And.intro @tb_isAggT_9 @tb_cellsT_9)))))
abbrev tf68 := (And.intro (And.intro (And.intro (And.intro @tb_res_68 @tb_fieldOff_76_25) (And.intro @tb_isAggT_72 @tb_cellsT_72)) (And.intro (And.intro @tb_lenT_72 @tb_indexT_72) (And.intro @tb_isAggT_199 (And.intro @tb_cellsT_199 @tb_lenT_199)))) (And.intro (And.intro (And.intro @tb_buildT_201 @tb_indexT_199) (And.intro @tb_isAggT_201 (And.intro @tb_cellsT_201 @tb_bsT_199_1))) (And.intro (And.intro @tb_bsT_72_1 @tb_zeroT_201) (And.intro @tb_fieldOff_201_0 (And.intro @tb_isAggT_2 @tb_cellsT_2)))))
abbrev tf69 := (And.intro (And.intro (And.intro (And.intro @tb_res_69 @tb_fieldOff_76_26) (And.intro @tb_isAggT_73 (And.intro @tb_cellsT_73 @tb_lenT_73))) (And.intro (And.intro @tb_indexT_73 @tb_isAggT_202) (And.intro @tb_cellsT_202 (And.intro @tb_lenT_202 @tb_buildT_201)))) (And.intro (And.intro (And.intro @tb_buildT_204 @tb_indexT_202) (And.intro @tb_isAggT_204 (And.intro @tb_cellsT_204 @tb_bsT_202_1))) (And.intro (And.intro @tb_bsT_73_1 (And.intro @tb_zeroT_204 @tb_fieldOff_204_0)) (And.intro @tb_fieldOff_201_0 (And.intro @tb_isAggT_2 @tb_cellsT_2)))))
abbrev tf70 := (And.intro (And.intro (And.intro (And.intro @tb_res_70 @tb_fieldOff_76_27) (And.intro @tb_isAggT_74 (And.intro @tb_cellsT_74 @tb_lenT_74))) (And.intro (And.intro @tb_indexT_74 @tb_isAggT_205) (And.intro @tb_cellsT_205 (And.intro @tb_lenT_205 @tb_callable_91)))) (And.intro (And.intro (And.intro @tb_buildT_207 @tb_indexT_205) (And.intro @tb_isAggT_207 (And.intro @tb_cellsT_207 @tb_bsT_205_1))) (And.intro (And.intro @tb_bsT_74_1 @tb_zeroT_207) (And.intro @tb_fieldOff_207_0 (And.intro @tb_isAggT_9 @tb_cellsT_9)))))
abbrev tf71 := (And.intro (And.intro (And.intro @tb_res_71 @tb_eqT_105) (And.intro @tb_fieldOff_87_0 @tb_isAggT_29)) (And.intro (And.intro @tb_cellsT_29 @tb_fieldOff_87_1) (And.intro @tb_isAggT_3 @tb_cellsT_3)))
abbrev tf72 := (And.intro @tb_res_72 (And.intro @tb_eqT_29 @tb_bsT_29_0))
abbrev tf73 := (And.intro (And.intro @tb_res_73 @tb_isAggT_37) (And.intro @tb_cellsT_37 (And.intro @tb_zeroT_37 @tb_buildT_37)))
abbrev tf74 := (And.intro (And.intro @tb_res_74 @tb_lenT_77) (And.intro @tb_indexT_77 (And.intro @tb_isAggT_2 @tb_cellsT_2)))
abbrev tf75 := (And.intro @tb_res_75 (And.intro @tb_convT_102_5 @tb_callable_82))
abbrev tf76 := (And.intro @tb_res_76 (And.intro @tb_callable_80 @tb_callable_75))
abbrev tf77 := @tb_res_77
abbrev tf78 := (And.intro (And.intro (And.intro @tb_res_78 (And.intro @tb_callable_92 @tb_fieldOff_93_1)) (And.intro @tb_isAggT_3 (And.intro @tb_cellsT_3 @tb_fieldOff_93_0))) (And.intro (And.intro @tb_isAggT_29 (And.intro @tb_cellsT_29 @tb_bsT_29_1)) (And.intro (And.intro @tb_lenT_29 @tb_indexT_29) (And.intro @tb_isAggT_5 @tb_cellsT_5))))
abbrev tf79 := (And.intro (And.intro (And.intro @tb_res_79 @tb_zeroT_26) (And.intro @tb_fieldOff_26_0 @tb_isAggT_24)) (And.intro (And.intro @tb_cellsT_24 @tb_fieldOff_26_1) (And.intro @tb_isAggT_2 @tb_cellsT_2)))
abbrev tf80 := (And.intro @tb_res_80 @tb_convT_2_102)
abbrev tf81 := @tb_res_81
abbrev tf82 := (And.intro (And.intro (And.intro @tb_res_82 @tb_fieldOff_93_0) (And.intro @tb_isAggT_29 @tb_cellsT_29)) (And.intro (And.intro @tb_bsT_29_1 @tb_fieldOff_93_1) (And.intro @tb_isAggT_3 @tb_cellsT_3)))
abbrev tf83 := (And.intro (And.intro (And.intro (And.intro @tb_res_83 (And.intro @tb_callable_93 @tb_fieldOff_124_0)) (And.intro @tb_isAggT_122 (And.intro @tb_cellsT_122 @tb_zeroT_122))) (And.intro (And.intro @tb_convT_3_102 (And.intro @tb_callable_89 @tb_fieldOff_124_1)) (And.intro @tb_isAggT_31 (And.intro @tb_cellsT_31 @tb_eqT_31)))) (And.intro (And.intro (And.intro @tb_fieldOff_122_1 (And.intro @tb_isAggT_3 @tb_cellsT_3)) (And.intro @tb_callable_85 (And.intro @tb_callable_94 @tb_callable_86))) (And.intro (And.intro @tb_fieldOff_122_0 (And.intro @tb_isAggT_29 @tb_cellsT_29)) (And.intro @tb_lenT_29 (And.intro @tb_convT_102_3 @tb_callable_95)))))
abbrev tf84 := (And.intro (And.intro (And.intro @tb_res_84 @tb_fieldOff_122_2) (And.intro @tb_isAggT_3 (And.intro @tb_cellsT_3 @tb_fieldOff_122_0))) (And.intro (And.intro @tb_isAggT_29 (And.intro @tb_cellsT_29 @tb_fieldOff_122_1)) (And.intro @tb_indexT_29 (And.intro @tb_isAggT_5 @tb_cellsT_5))))
abbrev tf85 := (And.intro (And.intro @tb_res_85 @tb_ifaceT_35) (And.intro @tb_buildT_212 @tb_ifaceT_212))
abbrev tf86 := (And.intro (And.intro @tb_res_86 @tb_eqT_94) (And.intro @tb_fieldOff_124_0 @tb_callable_96))
abbrev tf87 := (And.intro (And.intro (And.intro @tb_res_87 @tb_isAggT_26) (And.intro @tb_cellsT_26 @tb_zeroT_26)) (And.intro (And.intro @tb_callable_90 @tb_convT_102_3) (And.intro @tb_convT_102_2 @tb_buildT_26)))
abbrev tf88 := (And.intro @tb_res_88 (And.intro @tb_buildT_132 @tb_bsT_129_4))
abbrev tf89 := (And.intro (And.intro (And.intro (And.intro @tb_res_89 @tb_callable_93) (And.intro @tb_fieldOff_124_0 @tb_fieldOff_122_1)) (And.intro (And.intro @tb_isAggT_3 @tb_cellsT_3) (And.intro @tb_fieldOff_122_0 @tb_isAggT_29))) (And.intro (And.intro (And.intro @tb_cellsT_29 @tb_lenT_29) (And.intro @tb_callable_85 @tb_callable_94)) (And.intro (And.intro @tb_indexT_29 @tb_isAggT_5) (And.intro @tb_cellsT_5 (And.intro @tb_convT_5_102 @tb_fieldOff_122_2)))))
abbrev tf90 := (And.intro (And.intro (And.intro (And.intro @tb_res_90 @tb_eqT_94) (And.intro @tb_fieldOff_124_1 (And.intro @tb_isAggT_31 @tb_cellsT_31))) (And.intro (And.intro @tb_eqT_31 (And.intro @tb_fieldOff_124_0 @tb_fieldOff_122_2)) (And.intro @tb_isAggT_3 (And.intro @tb_cellsT_3 @tb_callable_86)))) (And.intro (And.intro (And.intro @tb_fieldOff_122_0 @tb_isAggT_29) (And.intro @tb_cellsT_29 (And.intro @tb_lenT_29 @tb_callable_85))) (And.intro (And.intro @tb_callable_94 (And.intro @tb_fieldOff_122_1 @tb_indexT_29)) (And.intro @tb_isAggT_5 (And.intro @tb_cellsT_5 @tb_convT_5_102)))))
abbrev tf91 := (And.intro (And.intro @tb_res_91 @tb_convT_3_5) (And.intro @tb_bsT_29_3 @tb_convT_29_9))
abbrev tf92 := @tb_res_92
abbrev tf93 := (And.intro (And.intro (And.intro @tb_res_93 (And.intro @tb_eqT_94 @tb_fieldOff_124_1)) (And.intro @tb_isAggT_31 (And.intro @tb_cellsT_31 @tb_eqT_31))) (And.intro (And.intro @tb_fieldOff_124_0 (And.intro @tb_callable_84 @tb_fieldOff_122_1)) (And.intro (And.intro @tb_isAggT_3 @tb_cellsT_3) (And.intro @tb_callable_85 @tb_callable_94))))
abbrev tf94 := (And.intro (And.intro @tb_res_94 (And.intro @tb_eqT_94 @tb_fieldOff_124_1)) (And.intro @tb_isAggT_31 (And.intro @tb_cellsT_31 @tb_eqT_31)))
abbrev tf95 := (And.intro (And.intro (And.intro @tb_res_95 (And.intro @tb_callable_93 @tb_callable_86)) (And.intro (And.intro @tb_fieldOff_124_0 @tb_fieldOff_122_0) (And.intro @tb_isAggT_29 @tb_cellsT_29))) (And.intro (And.intro (And.intro @tb_lenT_29 @tb_callable_85) (And.intro @tb_callable_94 @tb_fieldOff_122_1)) (And.intro (And.intro @tb_isAggT_3 @tb_cellsT_3) (And.intro @tb_fieldOff_122_2 @tb_indexT_29))))
abbrev tf96 := (And.intro (And.intro (And.intro @tb_res_96 @tb_eqT_210) (And.intro @tb_fieldOff_122_0 @tb_isAggT_29)) (And.intro (And.intro @tb_cellsT_29 @tb_lenT_29) (And.intro @tb_fieldOff_122_1 (And.intro @tb_isAggT_3 @tb_cellsT_3))))
end Go.Proofs.Ytmgiichlccdcfaa
