/- Closed facts on the tables of the program, each by the kernel: written by a program. -/
import Derived.Test.YtmgiichlccdcfaaGreatDoorDen
import Derived.Test.YtmgiichlccdcfaaGreatDoorProg
import Derived.KernelRfl
set_option maxRecDepth 100000
namespace Go.Proofs.YtmgiichlccdcfaaGreatDoor
open Go
theorem mixed : Tryz.prog.follows .mixedOrders = true := by kernel_rfl
theorem tb_bsT_126_4 : bsT Tryz.prog 126 4 = some (129, 5, #[.int .i64 0, .int .i64 0, .int .i64 0, .int .i64 0, .int .i64 0, .int .i64 0, .int .i64 0, .int .i64 0, .int .i64 0, .int .i64 0, .int .i64 0, .int .i64 0, .int .i64 0, .int .i64 0, .int .i64 0, .int .i64 0, .int .i64 0, .int .i64 0, .int .i64 0, .int .i64 0]) := by kernel_rfl
theorem tb_bsT_22_0 : bsT Tryz.prog 22 0 = some (5, 1, #[]) := by kernel_rfl
theorem tb_bsT_22_1 : bsT Tryz.prog 22 1 = some (5, 1, #[.int .u8 0]) := by kernel_rfl
theorem tb_bsT_22_3 : bsT Tryz.prog 22 3 = some (5, 1, #[.int .u8 0, .int .u8 0, .int .u8 0]) := by kernel_rfl
theorem tb_bsT_22_5 : bsT Tryz.prog 22 5 = some (5, 1, #[.int .u8 0, .int .u8 0, .int .u8 0, .int .u8 0, .int .u8 0]) := by kernel_rfl
theorem tb_bsT_24_1 : bsT Tryz.prog 24 1 = some (42, 3, #[.int .i64 0, .int .u8 0, .int .i64 0]) := by kernel_rfl
theorem tb_bsT_50_1 : bsT Tryz.prog 50 1 = some (2, 1, #[.int .i64 0]) := by kernel_rfl
theorem tb_bsT_50_3 : bsT Tryz.prog 50 3 = some (2, 1, #[.int .i64 0, .int .i64 0, .int .i64 0]) := by kernel_rfl
theorem tb_bsT_53_1 : bsT Tryz.prog 53 1 = some (40, 2, #[.int .u8 0, .int .i64 0]) := by kernel_rfl
theorem tb_buildT_129 : buildT Tryz.prog 129 = some (#[.int .i64 0, .int .i64 0, .int .i64 0, .int .i64 0, .int .i64 0], [(0, 1), (1, 1), (2, 1), (3, 1), (4, 1)]) := by kernel_rfl
theorem tb_buildT_134 : buildT Tryz.prog 134 = some (#[.slice none 0 0, .int .i64 0], [(0, 1), (1, 1)]) := by kernel_rfl
theorem tb_buildT_31 : buildT Tryz.prog 31 = some (#[.int .i64 0, .int .i64 0, .int .i64 0, .bool false, .bool false], [(0, 1), (1, 1), (2, 1), (3, 1), (4, 1)]) := by kernel_rfl
theorem tb_buildT_40 : buildT Tryz.prog 40 = some (#[.int .u8 0, .int .i64 0], [(0, 1), (1, 1)]) := by kernel_rfl
theorem tb_buildT_42 : buildT Tryz.prog 42 = some (#[.int .i64 0, .int .u8 0, .int .i64 0], [(0, 1), (1, 2)]) := by kernel_rfl
theorem tb_buildT_66 : buildT Tryz.prog 66 = some (#[.int .i64 0, .nilIface], [(0, 1), (1, 1)]) := by kernel_rfl
theorem tb_buildT_77 : buildT Tryz.prog 77 = some (#[.slice none 0 0, .int .i64 0, .int .i64 0], [(0, 1), (1, 1), (2, 1)]) := by kernel_rfl
theorem tb_buildT_79 : buildT Tryz.prog 79 = some (#[.slice none 0 0, .int .i64 0, .int .i64 0, .nilIface], [(0, 3), (3, 1)]) := by kernel_rfl
theorem tb_buildT_88 : buildT Tryz.prog 88 = some (#[.slice none 0 0, .int .i64 0, .int .i64 0, .int .i64 0, .int .i64 0, .int .i64 0, .bool false, .bool false], [(0, 1), (1, 1), (2, 1), (3, 5)]) := by kernel_rfl
theorem tb_callable_1 : callable Tryz.prog 1 = false := by kernel_rfl
theorem tb_callable_10 : callable Tryz.prog 10 = true := by kernel_rfl
theorem tb_callable_108 : callable Tryz.prog 108 = true := by kernel_rfl
theorem tb_callable_11 : callable Tryz.prog 11 = true := by kernel_rfl
theorem tb_callable_110 : callable Tryz.prog 110 = true := by kernel_rfl
theorem tb_callable_12 : callable Tryz.prog 12 = true := by kernel_rfl
theorem tb_callable_13 : callable Tryz.prog 13 = true := by kernel_rfl
theorem tb_callable_131 : callable Tryz.prog 131 = true := by kernel_rfl
theorem tb_callable_14 : callable Tryz.prog 14 = true := by kernel_rfl
theorem tb_callable_15 : callable Tryz.prog 15 = true := by kernel_rfl
theorem tb_callable_16 : callable Tryz.prog 16 = true := by kernel_rfl
theorem tb_callable_17 : callable Tryz.prog 17 = true := by kernel_rfl
theorem tb_callable_18 : callable Tryz.prog 18 = true := by kernel_rfl
theorem tb_callable_19 : callable Tryz.prog 19 = true := by kernel_rfl
theorem tb_callable_2 : callable Tryz.prog 2 = true := by kernel_rfl
theorem tb_callable_20 : callable Tryz.prog 20 = true := by kernel_rfl
theorem tb_callable_21 : callable Tryz.prog 21 = true := by kernel_rfl
theorem tb_callable_22 : callable Tryz.prog 22 = true := by kernel_rfl
theorem tb_callable_23 : callable Tryz.prog 23 = true := by kernel_rfl
theorem tb_callable_24 : callable Tryz.prog 24 = true := by kernel_rfl
theorem tb_callable_25 : callable Tryz.prog 25 = true := by kernel_rfl
theorem tb_callable_26 : callable Tryz.prog 26 = true := by kernel_rfl
theorem tb_callable_27 : callable Tryz.prog 27 = true := by kernel_rfl
theorem tb_callable_28 : callable Tryz.prog 28 = true := by kernel_rfl
theorem tb_callable_29 : callable Tryz.prog 29 = true := by kernel_rfl
theorem tb_callable_3 : callable Tryz.prog 3 = true := by kernel_rfl
theorem tb_callable_30 : callable Tryz.prog 30 = true := by kernel_rfl
theorem tb_callable_31 : callable Tryz.prog 31 = true := by kernel_rfl
theorem tb_callable_32 : callable Tryz.prog 32 = true := by kernel_rfl
theorem tb_callable_33 : callable Tryz.prog 33 = true := by kernel_rfl
theorem tb_callable_34 : callable Tryz.prog 34 = true := by kernel_rfl
theorem tb_callable_35 : callable Tryz.prog 35 = true := by kernel_rfl
theorem tb_callable_36 : callable Tryz.prog 36 = true := by kernel_rfl
theorem tb_callable_37 : callable Tryz.prog 37 = true := by kernel_rfl
theorem tb_callable_38 : callable Tryz.prog 38 = true := by kernel_rfl
theorem tb_callable_39 : callable Tryz.prog 39 = true := by kernel_rfl
theorem tb_callable_4 : callable Tryz.prog 4 = true := by kernel_rfl
theorem tb_callable_40 : callable Tryz.prog 40 = true := by kernel_rfl
theorem tb_callable_41 : callable Tryz.prog 41 = true := by kernel_rfl
theorem tb_callable_42 : callable Tryz.prog 42 = true := by kernel_rfl
theorem tb_callable_43 : callable Tryz.prog 43 = true := by kernel_rfl
theorem tb_callable_44 : callable Tryz.prog 44 = true := by kernel_rfl
theorem tb_callable_45 : callable Tryz.prog 45 = true := by kernel_rfl
theorem tb_callable_46 : callable Tryz.prog 46 = true := by kernel_rfl
theorem tb_callable_47 : callable Tryz.prog 47 = true := by kernel_rfl
theorem tb_callable_48 : callable Tryz.prog 48 = true := by kernel_rfl
theorem tb_callable_49 : callable Tryz.prog 49 = true := by kernel_rfl
theorem tb_callable_5 : callable Tryz.prog 5 = true := by kernel_rfl
theorem tb_callable_50 : callable Tryz.prog 50 = true := by kernel_rfl
theorem tb_callable_51 : callable Tryz.prog 51 = true := by kernel_rfl
theorem tb_callable_52 : callable Tryz.prog 52 = true := by kernel_rfl
theorem tb_callable_53 : callable Tryz.prog 53 = false := by kernel_rfl
theorem tb_callable_54 : callable Tryz.prog 54 = false := by kernel_rfl
theorem tb_callable_55 : callable Tryz.prog 55 = false := by kernel_rfl
theorem tb_callable_56 : callable Tryz.prog 56 = true := by kernel_rfl
theorem tb_callable_57 : callable Tryz.prog 57 = true := by kernel_rfl
theorem tb_callable_58 : callable Tryz.prog 58 = true := by kernel_rfl
theorem tb_callable_59 : callable Tryz.prog 59 = true := by kernel_rfl
theorem tb_callable_6 : callable Tryz.prog 6 = true := by kernel_rfl
theorem tb_callable_60 : callable Tryz.prog 60 = true := by kernel_rfl
theorem tb_callable_61 : callable Tryz.prog 61 = true := by kernel_rfl
theorem tb_callable_62 : callable Tryz.prog 62 = true := by kernel_rfl
theorem tb_callable_63 : callable Tryz.prog 63 = true := by kernel_rfl
theorem tb_callable_64 : callable Tryz.prog 64 = true := by kernel_rfl
theorem tb_callable_65 : callable Tryz.prog 65 = true := by kernel_rfl
theorem tb_callable_66 : callable Tryz.prog 66 = true := by kernel_rfl
theorem tb_callable_67 : callable Tryz.prog 67 = true := by kernel_rfl
theorem tb_callable_68 : callable Tryz.prog 68 = true := by kernel_rfl
theorem tb_callable_69 : callable Tryz.prog 69 = true := by kernel_rfl
theorem tb_callable_7 : callable Tryz.prog 7 = true := by kernel_rfl
theorem tb_callable_70 : callable Tryz.prog 70 = true := by kernel_rfl
theorem tb_callable_71 : callable Tryz.prog 71 = true := by kernel_rfl
theorem tb_callable_72 : callable Tryz.prog 72 = true := by kernel_rfl
theorem tb_callable_73 : callable Tryz.prog 73 = true := by kernel_rfl
theorem tb_callable_74 : callable Tryz.prog 74 = true := by kernel_rfl
theorem tb_callable_75 : callable Tryz.prog 75 = true := by kernel_rfl
theorem tb_callable_76 : callable Tryz.prog 76 = true := by kernel_rfl
theorem tb_callable_77 : callable Tryz.prog 77 = true := by kernel_rfl
theorem tb_callable_78 : callable Tryz.prog 78 = true := by kernel_rfl
theorem tb_callable_79 : callable Tryz.prog 79 = true := by kernel_rfl
theorem tb_callable_8 : callable Tryz.prog 8 = true := by kernel_rfl
theorem tb_callable_80 : callable Tryz.prog 80 = true := by kernel_rfl
theorem tb_callable_81 : callable Tryz.prog 81 = true := by kernel_rfl
theorem tb_callable_82 : callable Tryz.prog 82 = false := by kernel_rfl
theorem tb_callable_83 : callable Tryz.prog 83 = false := by kernel_rfl
theorem tb_callable_84 : callable Tryz.prog 84 = false := by kernel_rfl
theorem tb_callable_85 : callable Tryz.prog 85 = true := by kernel_rfl
theorem tb_callable_86 : callable Tryz.prog 86 = true := by kernel_rfl
theorem tb_callable_9 : callable Tryz.prog 9 = true := by kernel_rfl
theorem tb_cellsT_102 : cellsT Tryz.prog 102 = some 3 := by kernel_rfl
theorem tb_cellsT_105 : cellsT Tryz.prog 105 = some 1 := by kernel_rfl
theorem tb_cellsT_129 : cellsT Tryz.prog 129 = some 5 := by kernel_rfl
theorem tb_cellsT_2 : cellsT Tryz.prog 2 = some 1 := by kernel_rfl
theorem tb_cellsT_22 : cellsT Tryz.prog 22 = some 1 := by kernel_rfl
theorem tb_cellsT_26 : cellsT Tryz.prog 26 = some 1 := by kernel_rfl
theorem tb_cellsT_29 : cellsT Tryz.prog 29 = some 1 := by kernel_rfl
theorem tb_cellsT_3 : cellsT Tryz.prog 3 = some 1 := by kernel_rfl
theorem tb_cellsT_31 : cellsT Tryz.prog 31 = some 5 := by kernel_rfl
theorem tb_cellsT_38 : cellsT Tryz.prog 38 = some 1 := by kernel_rfl
theorem tb_cellsT_4 : cellsT Tryz.prog 4 = some 1 := by kernel_rfl
theorem tb_cellsT_40 : cellsT Tryz.prog 40 = some 2 := by kernel_rfl
theorem tb_cellsT_42 : cellsT Tryz.prog 42 = some 3 := by kernel_rfl
theorem tb_cellsT_5 : cellsT Tryz.prog 5 = some 1 := by kernel_rfl
theorem tb_cellsT_77 : cellsT Tryz.prog 77 = some 3 := by kernel_rfl
theorem tb_convT_22_9 : convT Tryz.prog 22 9 = .strStr := by kernel_rfl
theorem tb_convT_2_82 : convT Tryz.prog 2 82 = .toInt .u64 := by kernel_rfl
theorem tb_convT_38_82 : convT Tryz.prog 38 82 = .toInt .u64 := by kernel_rfl
theorem tb_convT_3_5 : convT Tryz.prog 3 5 = .toInt .u8 := by kernel_rfl
theorem tb_convT_3_82 : convT Tryz.prog 3 82 = .toInt .u64 := by kernel_rfl
theorem tb_convT_5_3 : convT Tryz.prog 5 3 = .toInt .i64 := by kernel_rfl
theorem tb_convT_5_82 : convT Tryz.prog 5 82 = .toInt .u64 := by kernel_rfl
theorem tb_convT_82_2 : convT Tryz.prog 82 2 = .toInt .i64 := by kernel_rfl
theorem tb_convT_82_3 : convT Tryz.prog 82 3 = .toInt .i64 := by kernel_rfl
theorem tb_convT_82_38 : convT Tryz.prog 82 38 = .toInt .u8 := by kernel_rfl
theorem tb_convT_82_5 : convT Tryz.prog 82 5 = .toInt .u8 := by kernel_rfl
theorem tb_eqT_116 : eqT Tryz.prog 116 = .ptr := by kernel_rfl
theorem tb_eqT_124 : eqT Tryz.prog 124 = .ptr := by kernel_rfl
theorem tb_eqT_20 : eqT Tryz.prog 20 = .iface := by kernel_rfl
theorem tb_eqT_22 : eqT Tryz.prog 22 = .sl := by kernel_rfl
theorem tb_eqT_26 : eqT Tryz.prog 26 = .iface := by kernel_rfl
theorem tb_eqT_4 : eqT Tryz.prog 4 = .bool := by kernel_rfl
theorem tb_eqT_40 : eqT Tryz.prog 40 = .struct := by kernel_rfl
theorem tb_eqT_42 : eqT Tryz.prog 42 = .struct := by kernel_rfl
theorem tb_eqT_46 : eqT Tryz.prog 46 = .ptr := by kernel_rfl
theorem tb_eqT_57 : eqT Tryz.prog 57 = .ptr := by kernel_rfl
theorem tb_fieldAt_31_0 : fieldAt Tryz.prog 31 0 = some (0, 1, false) := by kernel_rfl
theorem tb_fieldOff_112_0 : fieldOff Tryz.prog 112 0 = some 0 := by kernel_rfl
theorem tb_fieldOff_112_1 : fieldOff Tryz.prog 112 1 = some 1 := by kernel_rfl
theorem tb_fieldOff_129_0 : fieldOff Tryz.prog 129 0 = some 0 := by kernel_rfl
theorem tb_fieldOff_129_1 : fieldOff Tryz.prog 129 1 = some 1 := by kernel_rfl
theorem tb_fieldOff_129_2 : fieldOff Tryz.prog 129 2 = some 2 := by kernel_rfl
theorem tb_fieldOff_129_3 : fieldOff Tryz.prog 129 3 = some 3 := by kernel_rfl
theorem tb_fieldOff_129_4 : fieldOff Tryz.prog 129 4 = some 4 := by kernel_rfl
theorem tb_fieldOff_134_0 : fieldOff Tryz.prog 134 0 = some 0 := by kernel_rfl
theorem tb_fieldOff_134_1 : fieldOff Tryz.prog 134 1 = some 1 := by kernel_rfl
theorem tb_fieldOff_31_0 : fieldOff Tryz.prog 31 0 = some 0 := by kernel_rfl
theorem tb_fieldOff_31_1 : fieldOff Tryz.prog 31 1 = some 1 := by kernel_rfl
theorem tb_fieldOff_31_2 : fieldOff Tryz.prog 31 2 = some 2 := by kernel_rfl
theorem tb_fieldOff_31_3 : fieldOff Tryz.prog 31 3 = some 3 := by kernel_rfl
theorem tb_fieldOff_31_4 : fieldOff Tryz.prog 31 4 = some 4 := by kernel_rfl
theorem tb_fieldOff_40_0 : fieldOff Tryz.prog 40 0 = some 0 := by kernel_rfl
theorem tb_fieldOff_40_1 : fieldOff Tryz.prog 40 1 = some 1 := by kernel_rfl
theorem tb_fieldOff_42_0 : fieldOff Tryz.prog 42 0 = some 0 := by kernel_rfl
theorem tb_fieldOff_66_0 : fieldOff Tryz.prog 66 0 = some 0 := by kernel_rfl
theorem tb_fieldOff_66_1 : fieldOff Tryz.prog 66 1 = some 1 := by kernel_rfl
theorem tb_fieldOff_68_0 : fieldOff Tryz.prog 68 0 = some 0 := by kernel_rfl
theorem tb_fieldOff_68_1 : fieldOff Tryz.prog 68 1 = some 1 := by kernel_rfl
theorem tb_fieldOff_77_0 : fieldOff Tryz.prog 77 0 = some 0 := by kernel_rfl
theorem tb_fieldOff_77_1 : fieldOff Tryz.prog 77 1 = some 1 := by kernel_rfl
theorem tb_fieldOff_77_2 : fieldOff Tryz.prog 77 2 = some 2 := by kernel_rfl
theorem tb_fieldOff_79_0 : fieldOff Tryz.prog 79 0 = some 0 := by kernel_rfl
theorem tb_fieldOff_79_1 : fieldOff Tryz.prog 79 1 = some 3 := by kernel_rfl
theorem tb_fieldOff_88_0 : fieldOff Tryz.prog 88 0 = some 0 := by kernel_rfl
theorem tb_fieldOff_88_1 : fieldOff Tryz.prog 88 1 = some 1 := by kernel_rfl
theorem tb_fieldOff_88_2 : fieldOff Tryz.prog 88 2 = some 2 := by kernel_rfl
theorem tb_fieldOff_88_3 : fieldOff Tryz.prog 88 3 = some 3 := by kernel_rfl
theorem tb_ifaceT_144 : ifaceT Tryz.prog 144 = some true := by kernel_rfl
theorem tb_ifaceT_147 : ifaceT Tryz.prog 147 = some true := by kernel_rfl
theorem tb_ifaceT_148 : ifaceT Tryz.prog 148 = some true := by kernel_rfl
theorem tb_ifaceT_181 : ifaceT Tryz.prog 181 = some false := by kernel_rfl
theorem tb_ifaceT_29 : ifaceT Tryz.prog 29 = some false := by kernel_rfl
theorem tb_ifaceT_66 : ifaceT Tryz.prog 66 = some false := by kernel_rfl
theorem tb_ifaceT_70 : ifaceT Tryz.prog 70 = some false := by kernel_rfl
theorem tb_ifaceT_71 : ifaceT Tryz.prog 71 = some false := by kernel_rfl
theorem tb_ifaceT_72 : ifaceT Tryz.prog 72 = some false := by kernel_rfl
theorem tb_ifaceT_9 : ifaceT Tryz.prog 9 = some false := by kernel_rfl
theorem tb_indexT_126 : indexT Tryz.prog 126 = some (.sl 5) := by kernel_rfl
theorem tb_indexT_149 : indexT Tryz.prog 149 = some (.sl 1) := by kernel_rfl
theorem tb_indexT_22 : indexT Tryz.prog 22 = some (.sl 1) := by kernel_rfl
theorem tb_indexT_24 : indexT Tryz.prog 24 = some (.sl 3) := by kernel_rfl
theorem tb_indexT_50 : indexT Tryz.prog 50 = some (.sl 1) := by kernel_rfl
theorem tb_indexT_53 : indexT Tryz.prog 53 = some (.sl 2) := by kernel_rfl
theorem tb_indexT_9 : indexT Tryz.prog 9 = some (.str) := by kernel_rfl
theorem tb_isAggT_102 : isAggT Tryz.prog 102 = some true := by kernel_rfl
theorem tb_isAggT_105 : isAggT Tryz.prog 105 = some false := by kernel_rfl
theorem tb_isAggT_129 : isAggT Tryz.prog 129 = some true := by kernel_rfl
theorem tb_isAggT_2 : isAggT Tryz.prog 2 = some false := by kernel_rfl
theorem tb_isAggT_22 : isAggT Tryz.prog 22 = some false := by kernel_rfl
theorem tb_isAggT_26 : isAggT Tryz.prog 26 = some false := by kernel_rfl
theorem tb_isAggT_29 : isAggT Tryz.prog 29 = some false := by kernel_rfl
theorem tb_isAggT_3 : isAggT Tryz.prog 3 = some false := by kernel_rfl
theorem tb_isAggT_31 : isAggT Tryz.prog 31 = some true := by kernel_rfl
theorem tb_isAggT_38 : isAggT Tryz.prog 38 = some false := by kernel_rfl
theorem tb_isAggT_4 : isAggT Tryz.prog 4 = some false := by kernel_rfl
theorem tb_isAggT_40 : isAggT Tryz.prog 40 = some true := by kernel_rfl
theorem tb_isAggT_42 : isAggT Tryz.prog 42 = some true := by kernel_rfl
theorem tb_isAggT_5 : isAggT Tryz.prog 5 = some false := by kernel_rfl
theorem tb_isAggT_77 : isAggT Tryz.prog 77 = some true := by kernel_rfl
theorem tb_lenT_126 : lenT Tryz.prog 126 = .sl := by kernel_rfl
theorem tb_lenT_149 : lenT Tryz.prog 149 = .sl := by kernel_rfl
theorem tb_lenT_22 : lenT Tryz.prog 22 = .sl := by kernel_rfl
theorem tb_lenT_24 : lenT Tryz.prog 24 = .sl := by kernel_rfl
theorem tb_lenT_50 : lenT Tryz.prog 50 = .sl := by kernel_rfl
theorem tb_lenT_53 : lenT Tryz.prog 53 = .sl := by kernel_rfl
theorem tb_res_10 : Tryz.f10.results.toList = [.tmp 0] := by kernel_rfl
theorem tb_res_108 : Tryz.f108.results.toList = [.tmp 2] := by kernel_rfl
theorem tb_res_11 : Tryz.f11.results.toList = [.tmp 4] := by kernel_rfl
theorem tb_res_110 : Tryz.f110.results.toList = [.tmp 2] := by kernel_rfl
theorem tb_res_12 : Tryz.f12.results.toList = [.tmp 2] := by kernel_rfl
theorem tb_res_13 : Tryz.f13.results.toList = [.tmp 4] := by kernel_rfl
theorem tb_res_131 : Tryz.f131.results.toList = [] := by kernel_rfl
theorem tb_res_14 : Tryz.f14.results.toList = [.tmp 2] := by kernel_rfl
theorem tb_res_15 : Tryz.f15.results.toList = [.tmp 2, .tmp 3] := by kernel_rfl
theorem tb_res_16 : Tryz.f16.results.toList = [.tmp 2, .tmp 3] := by kernel_rfl
theorem tb_res_17 : Tryz.f17.results.toList = [.tmp 2] := by kernel_rfl
theorem tb_res_18 : Tryz.f18.results.toList = [.tmp 2] := by kernel_rfl
theorem tb_res_19 : Tryz.f19.results.toList = [.tmp 4] := by kernel_rfl
theorem tb_res_2 : Tryz.f2.results.toList = [] := by kernel_rfl
theorem tb_res_20 : Tryz.f20.results.toList = [.cell 2 31] := by kernel_rfl
theorem tb_res_21 : Tryz.f21.results.toList = [.tmp 2, .cell 3 31] := by kernel_rfl
theorem tb_res_22 : Tryz.f22.results.toList = [.tmp 2, .cell 3 31] := by kernel_rfl
theorem tb_res_23 : Tryz.f23.results.toList = [.cell 2 31] := by kernel_rfl
theorem tb_res_24 : Tryz.f24.results.toList = [.tmp 4] := by kernel_rfl
theorem tb_res_25 : Tryz.f25.results.toList = [.tmp 2, .tmp 3] := by kernel_rfl
theorem tb_res_26 : Tryz.f26.results.toList = [.tmp 2, .tmp 3] := by kernel_rfl
theorem tb_res_27 : Tryz.f27.results.toList = [.tmp 4] := by kernel_rfl
theorem tb_res_28 : Tryz.f28.results.toList = [.tmp 2] := by kernel_rfl
theorem tb_res_29 : Tryz.f29.results.toList = [.tmp 4] := by kernel_rfl
theorem tb_res_3 : Tryz.f3.results.toList = [.tmp 2] := by kernel_rfl
theorem tb_res_30 : Tryz.f30.results.toList = [.tmp 2] := by kernel_rfl
theorem tb_res_31 : Tryz.f31.results.toList = [.tmp 2] := by kernel_rfl
theorem tb_res_32 : Tryz.f32.results.toList = [.tmp 4] := by kernel_rfl
theorem tb_res_33 : Tryz.f33.results.toList = [.tmp 2] := by kernel_rfl
theorem tb_res_34 : Tryz.f34.results.toList = [.tmp 4] := by kernel_rfl
theorem tb_res_35 : Tryz.f35.results.toList = [.tmp 2] := by kernel_rfl
theorem tb_res_36 : Tryz.f36.results.toList = [.tmp 2] := by kernel_rfl
theorem tb_res_37 : Tryz.f37.results.toList = [.tmp 4] := by kernel_rfl
theorem tb_res_38 : Tryz.f38.results.toList = [.cell 6 40] := by kernel_rfl
theorem tb_res_39 : Tryz.f39.results.toList = [.tmp 6, .tmp 7] := by kernel_rfl
theorem tb_res_4 : Tryz.f4.results.toList = [.tmp 2] := by kernel_rfl
theorem tb_res_40 : Tryz.f40.results.toList = [] := by kernel_rfl
theorem tb_res_41 : Tryz.f41.results.toList = [.cell 4 31] := by kernel_rfl
theorem tb_res_42 : Tryz.f42.results.toList = [.tmp 2] := by kernel_rfl
theorem tb_res_43 : Tryz.f43.results.toList = [.tmp 2] := by kernel_rfl
theorem tb_res_44 : Tryz.f44.results.toList = [.tmp 4] := by kernel_rfl
theorem tb_res_45 : Tryz.f45.results.toList = [.cell 2 31] := by kernel_rfl
theorem tb_res_46 : Tryz.f46.results.toList = [.tmp 2] := by kernel_rfl
theorem tb_res_47 : Tryz.f47.results.toList = [.tmp 2] := by kernel_rfl
theorem tb_res_48 : Tryz.f48.results.toList = [.tmp 2, .cell 3 31] := by kernel_rfl
theorem tb_res_49 : Tryz.f49.results.toList = [.tmp 4] := by kernel_rfl
theorem tb_res_5 : Tryz.f5.results.toList = [.tmp 2, .tmp 3] := by kernel_rfl
theorem tb_res_50 : Tryz.f50.results.toList = [.tmp 4] := by kernel_rfl
theorem tb_res_51 : Tryz.f51.results.toList = [.tmp 2] := by kernel_rfl
theorem tb_res_52 : Tryz.f52.results.toList = [.tmp 2, .cell 3 31] := by kernel_rfl
theorem tb_res_56 : Tryz.f56.results.toList = [.tmp 8] := by kernel_rfl
theorem tb_res_57 : Tryz.f57.results.toList = [] := by kernel_rfl
theorem tb_res_58 : Tryz.f58.results.toList = [] := by kernel_rfl
theorem tb_res_59 : Tryz.f59.results.toList = [] := by kernel_rfl
theorem tb_res_6 : Tryz.f6.results.toList = [.tmp 2, .cell 3 31] := by kernel_rfl
theorem tb_res_60 : Tryz.f60.results.toList = [.tmp 2] := by kernel_rfl
theorem tb_res_61 : Tryz.f61.results.toList = [.tmp 2] := by kernel_rfl
theorem tb_res_62 : Tryz.f62.results.toList = [] := by kernel_rfl
theorem tb_res_63 : Tryz.f63.results.toList = [.tmp 2] := by kernel_rfl
theorem tb_res_64 : Tryz.f64.results.toList = [.tmp 2] := by kernel_rfl
theorem tb_res_65 : Tryz.f65.results.toList = [.tmp 2] := by kernel_rfl
theorem tb_res_66 : Tryz.f66.results.toList = [.tmp 6] := by kernel_rfl
theorem tb_res_67 : Tryz.f67.results.toList = [] := by kernel_rfl
theorem tb_res_68 : Tryz.f68.results.toList = [.tmp 4] := by kernel_rfl
theorem tb_res_69 : Tryz.f69.results.toList = [.tmp 2] := by kernel_rfl
theorem tb_res_7 : Tryz.f7.results.toList = [.tmp 2, .tmp 3, .tmp 4, .tmp 5] := by kernel_rfl
theorem tb_res_70 : Tryz.f70.results.toList = [.tmp 0] := by kernel_rfl
theorem tb_res_71 : Tryz.f71.results.toList = [.tmp 4] := by kernel_rfl
theorem tb_res_72 : Tryz.f72.results.toList = [.tmp 4] := by kernel_rfl
theorem tb_res_73 : Tryz.f73.results.toList = [.tmp 2] := by kernel_rfl
theorem tb_res_74 : Tryz.f74.results.toList = [] := by kernel_rfl
theorem tb_res_75 : Tryz.f75.results.toList = [] := by kernel_rfl
theorem tb_res_76 : Tryz.f76.results.toList = [.tmp 2, .tmp 3, .tmp 4, .tmp 5] := by kernel_rfl
theorem tb_res_77 : Tryz.f77.results.toList = [] := by kernel_rfl
theorem tb_res_78 : Tryz.f78.results.toList = [.tmp 2] := by kernel_rfl
theorem tb_res_79 : Tryz.f79.results.toList = [.tmp 2] := by kernel_rfl
theorem tb_res_8 : Tryz.f8.results.toList = [.tmp 4] := by kernel_rfl
theorem tb_res_80 : Tryz.f80.results.toList = [.tmp 2] := by kernel_rfl
theorem tb_res_81 : Tryz.f81.results.toList = [.tmp 2] := by kernel_rfl
theorem tb_res_85 : Tryz.f85.results.toList = [] := by kernel_rfl
theorem tb_res_86 : Tryz.f86.results.toList = [] := by kernel_rfl
theorem tb_res_9 : Tryz.f9.results.toList = [.tmp 4] := by kernel_rfl
theorem tb_zeroT_102 : zeroT Tryz.prog 102 = some (.agg #[.pointer none, .pointer none, .int .u64 0]) := by kernel_rfl
theorem tb_zeroT_112 : zeroT Tryz.prog 112 = some (.agg #[.slice none 0 0, .int .i64 0]) := by kernel_rfl
theorem tb_zeroT_129 : zeroT Tryz.prog 129 = some (.agg #[.int .i64 0, .int .i64 0, .int .i64 0, .int .i64 0, .int .i64 0]) := by kernel_rfl
theorem tb_zeroT_134 : zeroT Tryz.prog 134 = some (.agg #[.slice none 0 0, .int .i64 0]) := by kernel_rfl
theorem tb_zeroT_29 : zeroT Tryz.prog 29 = some (.int .i64 0) := by kernel_rfl
theorem tb_zeroT_31 : zeroT Tryz.prog 31 = some (.agg #[.int .i64 0, .int .i64 0, .int .i64 0, .bool false, .bool false]) := by kernel_rfl
theorem tb_zeroT_40 : zeroT Tryz.prog 40 = some (.agg #[.int .u8 0, .int .i64 0]) := by kernel_rfl
theorem tb_zeroT_66 : zeroT Tryz.prog 66 = some (.agg #[.int .i64 0, .nilIface]) := by kernel_rfl
theorem tb_zeroT_68 : zeroT Tryz.prog 68 = some (.agg #[.int .i64 0, .nilIface]) := by kernel_rfl
theorem tb_zeroT_77 : zeroT Tryz.prog 77 = some (.agg #[.slice none 0 0, .int .i64 0, .int .i64 0]) := by kernel_rfl
theorem tb_zeroT_79 : zeroT Tryz.prog 79 = some (.agg #[.slice none 0 0, .int .i64 0, .int .i64 0, .nilIface]) := by kernel_rfl
theorem tb_zeroT_88 : zeroT Tryz.prog 88 = some (.agg #[.slice none 0 0, .int .i64 0, .int .i64 0, .int .i64 0, .int .i64 0, .int .i64 0, .bool false, .bool false]) := by kernel_rfl
theorem eqAgg_of {P : Program} {t : TypeId} {x y : Value} {r : Option Bool} (h : P.eqGuardType P.depth t = false) (hd : eqDeep P 8 t x y = r) : eqAgg P t x y = r := by unfold eqAgg; rw [h]; exact hd
theorem eqDeep_struct {P : Program} {n : Nat} {t : TypeId} {fs : Array Field} {xs ys : Array Value} {r : Option Bool} (hu : P.underlying t = some (.struct fs)) (hh : P.stoodInHeld t = false) (hf : eqFs P (eqDeep P n) xs ys fs.toList = r) : eqDeep P (n + 1) t (.agg xs) (.agg ys) = r := by unfold eqDeep; rw [hu]; show (if P.stoodInHeld t = true then _ else _) = _; rw [if_neg (by rw [hh]; decide)]; exact hf
theorem eqDeep_int {P : Program} {n : Nat} {t : TypeId} {k k' : IntKind} {a b : Int} (hu : P.underlying t = some (.int k')) : eqDeep P (n + 1) t (.int k a) (.int k b) = some (decide (a = b)) := by unfold eqDeep; rw [hu]; exact if_pos rfl
theorem eqDeep_string {P : Program} {n : Nat} {t : TypeId} {a b : ByteArray} (hu : P.underlying t = some .string) : eqDeep P (n + 1) t (.string a) (.string b) = some (decide (a.toList = b.toList)) := by unfold eqDeep; rw [hu]; show some (a.toList == b.toList) = _; by_cases h : a.toList = b.toList <;> simp [h]
theorem eqFs_nil {P : Program} {r : TypeId → Value → Value → Option Bool} {xs ys : Array Value} : eqFs P r xs ys [] = some (decide True) := rfl
theorem eqFs_cons {P : Program} {r : TypeId → Value → Value → Option Bool} {xs ys : Array Value} {f : Field} {fs : List Field} {a b : Value} {c d : Prop} [Decidable c] [Decidable d] (hn : f.name ≠ "_") (ha : partP P f.type xs f.offset = some a) (hb : partP P f.type ys f.offset = some b)
    (hr : r f.type a b = some (decide c)) (ht : eqFs P r xs ys fs = some (decide d)) : eqFs P r xs ys (f :: fs) = some (decide (c ∧ d)) := by
  unfold eqFs
  rw [if_neg hn, ha, hb]
  show (match r f.type a b with | some true => _ | some false => _ | none => _) = _
  rw [hr]
  by_cases h : c
  · rw [decide_eq_true h, ht]; simp [h]
  · rw [decide_eq_false h]; simp [h]
theorem eqPart_leaf {P : Program} {t : TypeId} {cs : Array Value} {o n : Nat} {v : Value} (h : isAggT P t = some false) (hc : cellsT P t = some n) (hv : cs[o]? = some v) : partP P t cs o = some v := by unfold partP; rw [h, hc]; exact hv
theorem eqPart_agg {P : Program} {t : TypeId} {cs : Array Value} {o n : Nat} {x : Array Value} (h : isAggT P t = some true) (hc : cellsT P t = some n) (hv : cs.extract o (o + n) = x) : partP P t cs o = some (.agg x) := by unfold partP; rw [h, hc, ← hv]
theorem tb_eqU_42 : Tryz.prog.underlying 42 = some (.struct #[⟨"Time", 2, 0, false, "", "", 0⟩, ⟨"Value", 40, 1, false, "", "", 8⟩]) := by kernel_rfl
theorem tb_eqH_42 : Tryz.prog.stoodInHeld 42 = false := by kernel_rfl
theorem tb_eqA_2 : isAggT Tryz.prog 2 = some false := by kernel_rfl
theorem tb_eqC_2 : cellsT Tryz.prog 2 = some 1 := by kernel_rfl
theorem tb_eqU_2 : Tryz.prog.underlying 2 = some (.int .i64) := by kernel_rfl
theorem tb_eqA_40 : isAggT Tryz.prog 40 = some true := by kernel_rfl
theorem tb_eqC_40 : cellsT Tryz.prog 40 = some 2 := by kernel_rfl
theorem tb_eqU_40 : Tryz.prog.underlying 40 = some (.struct #[⟨"Kind", 38, 0, false, "", "", 0⟩, ⟨"N", 2, 1, false, "", "", 8⟩]) := by kernel_rfl
theorem tb_eqH_40 : Tryz.prog.stoodInHeld 40 = false := by kernel_rfl
theorem tb_eqA_38 : isAggT Tryz.prog 38 = some false := by kernel_rfl
theorem tb_eqC_38 : cellsT Tryz.prog 38 = some 1 := by kernel_rfl
theorem tb_eqU_38 : Tryz.prog.underlying 38 = some (.int .u8) := by kernel_rfl
theorem tb_eqG_42 : Tryz.prog.eqGuardType Tryz.prog.depth 42 = false := by kernel_rfl
theorem tb_eqG_40 : Tryz.prog.eqGuardType Tryz.prog.depth 40 = false := by kernel_rfl
theorem tb_eqS_42 (a0 b0 : Int) (a1 b1 : Int) (a2 b2 : Int) : (eqAgg Tryz.prog 42 (.agg #[.int .i64 a0, .int .u8 a1, .int .i64 a2]) (.agg #[.int .i64 b0, .int .u8 b1, .int .i64 b2])) = some (decide (a0 = b0 ∧ a1 = b1 ∧ a2 = b2)) := (eqAgg_of tb_eqG_42 (eqDeep_struct tb_eqU_42 tb_eqH_42 (eqFs_cons (by decide) (eqPart_leaf tb_eqA_2 tb_eqC_2 rfl) (eqPart_leaf tb_eqA_2 tb_eqC_2 rfl) (eqDeep_int tb_eqU_2) (eqFs_cons (by decide) (eqPart_agg tb_eqA_40 tb_eqC_40 rfl) (eqPart_agg tb_eqA_40 tb_eqC_40 rfl) (eqDeep_struct tb_eqU_40 tb_eqH_40 (eqFs_cons (by decide) (eqPart_leaf tb_eqA_38 tb_eqC_38 rfl) (eqPart_leaf tb_eqA_38 tb_eqC_38 rfl) (eqDeep_int tb_eqU_38) (eqFs_cons (by decide) (eqPart_leaf tb_eqA_2 tb_eqC_2 rfl) (eqPart_leaf tb_eqA_2 tb_eqC_2 rfl) (eqDeep_int tb_eqU_2) eqFs_nil))) eqFs_nil)))).trans (by simp)
theorem tb_eqS_40 (a0 b0 : Int) (a1 b1 : Int) : (eqAgg Tryz.prog 40 (.agg #[.int .u8 a0, .int .i64 a1]) (.agg #[.int .u8 b0, .int .i64 b1])) = some (decide (a0 = b0 ∧ a1 = b1)) := (eqAgg_of tb_eqG_40 (eqDeep_struct tb_eqU_40 tb_eqH_40 (eqFs_cons (by decide) (eqPart_leaf tb_eqA_38 tb_eqC_38 rfl) (eqPart_leaf tb_eqA_38 tb_eqC_38 rfl) (eqDeep_int tb_eqU_38) (eqFs_cons (by decide) (eqPart_leaf tb_eqA_2 tb_eqC_2 rfl) (eqPart_leaf tb_eqA_2 tb_eqC_2 rfl) (eqDeep_int tb_eqU_2) eqFs_nil)))).trans (by simp)
/- all facts that one function's walk wants. -/
abbrev tf2 := (And.intro @tb_res_2 @tb_callable_1)
abbrev tf3 := (And.intro (And.intro (And.intro (And.intro @tb_res_3 @tb_callable_4) (And.intro @tb_callable_5 @tb_callable_6)) (And.intro (And.intro @tb_zeroT_31 @tb_isAggT_31) (And.intro @tb_cellsT_31 @tb_callable_7))) (And.intro (And.intro (And.intro @tb_lenT_24 @tb_callable_8) (And.intro @tb_callable_9 @tb_indexT_24)) (And.intro (And.intro @tb_fieldOff_42_0 @tb_isAggT_2) (And.intro @tb_cellsT_2 (And.intro @tb_callable_10 @tb_callable_11)))))
abbrev tf4 := (And.intro (And.intro @tb_res_4 (And.intro @tb_lenT_22 @tb_indexT_22)) (And.intro @tb_isAggT_5 (And.intro @tb_cellsT_5 @tb_convT_3_5)))
abbrev tf5 := (And.intro (And.intro (And.intro (And.intro @tb_res_5 @tb_callable_12) (And.intro @tb_callable_13 @tb_callable_14)) (And.intro (And.intro @tb_eqT_26 @tb_callable_15) (And.intro @tb_callable_16 (And.intro @tb_lenT_50 @tb_lenT_53)))) (And.intro (And.intro (And.intro @tb_callable_17 @tb_indexT_50) (And.intro @tb_isAggT_2 @tb_cellsT_2)) (And.intro (And.intro @tb_indexT_53 @tb_isAggT_40) (And.intro @tb_cellsT_40 (And.intro @tb_buildT_42 @tb_bsT_24_1)))))
abbrev tf6 := (And.intro (And.intro (And.intro (And.intro @tb_res_6 (And.intro @tb_isAggT_31 @tb_cellsT_31)) (And.intro @tb_zeroT_31 (And.intro @tb_callable_18 @tb_callable_19))) (And.intro (And.intro @tb_callable_20 (And.intro @tb_fieldOff_31_0 @tb_isAggT_29)) (And.intro @tb_cellsT_29 (And.intro @tb_callable_21 @tb_callable_22)))) (And.intro (And.intro (And.intro @tb_lenT_50 (And.intro @tb_lenT_53 @tb_callable_23)) (And.intro @tb_indexT_50 (And.intro @tb_isAggT_2 @tb_cellsT_2))) (And.intro (And.intro @tb_indexT_53 (And.intro @tb_isAggT_40 @tb_cellsT_40)) (And.intro @tb_buildT_42 (And.intro @tb_bsT_24_1 @tb_buildT_31)))))
abbrev tf7 := (And.intro (And.intro (And.intro @tb_res_7 @tb_callable_5) (And.intro @tb_eqT_26 @tb_lenT_24)) (And.intro (And.intro @tb_indexT_24 @tb_fieldOff_42_0) (And.intro @tb_isAggT_2 @tb_cellsT_2)))
abbrev tf8 := (And.intro (And.intro (And.intro (And.intro @tb_res_8 (And.intro @tb_zeroT_31 @tb_fieldOff_31_0)) (And.intro @tb_isAggT_29 (And.intro @tb_cellsT_29 @tb_eqT_26))) (And.intro (And.intro @tb_zeroT_29 (And.intro @tb_zeroT_66 @tb_zeroT_68)) (And.intro @tb_ifaceT_70 (And.intro @tb_callable_24 @tb_ifaceT_71)))) (And.intro (And.intro (And.intro @tb_fieldOff_31_3 (And.intro @tb_isAggT_4 @tb_cellsT_4)) (And.intro @tb_eqT_4 (And.intro @tb_ifaceT_72 @tb_fieldOff_31_4))) (And.intro (And.intro @tb_fieldOff_66_0 (And.intro @tb_isAggT_3 @tb_cellsT_3)) (And.intro @tb_fieldOff_31_1 (And.intro @tb_fieldOff_68_0 @tb_fieldOff_31_2)))))
abbrev tf9 := (And.intro (And.intro @tb_res_9 (And.intro @tb_lenT_24 @tb_indexT_24)) (And.intro (And.intro @tb_isAggT_42 @tb_cellsT_42) (And.intro @tb_eqT_42 @tb_eqS_42)))
abbrev tf10 := (And.intro (And.intro (And.intro @tb_res_10 @tb_bsT_50_3) (And.intro @tb_callable_25 (And.intro @tb_buildT_40 @tb_bsT_53_1))) (And.intro (And.intro @tb_callable_26 @tb_eqT_26) (And.intro @tb_bsT_22_5 (And.intro @tb_callable_27 @tb_bsT_22_3))))
abbrev tf11 := (And.intro (And.intro @tb_res_11 (And.intro @tb_callable_27 @tb_lenT_22)) (And.intro (And.intro @tb_indexT_22 @tb_isAggT_5) (And.intro @tb_cellsT_5 @tb_convT_3_5)))
abbrev tf12 := (And.intro (And.intro @tb_res_12 @tb_callable_28) (And.intro @tb_buildT_77 (And.intro @tb_buildT_79 @tb_zeroT_79)))
abbrev tf13 := (And.intro @tb_res_13 (And.intro @tb_callable_29 @tb_callable_28))
abbrev tf14 := (And.intro (And.intro (And.intro @tb_res_14 @tb_callable_30) (And.intro @tb_eqT_26 (And.intro @tb_fieldOff_79_0 @tb_callable_31))) (And.intro (And.intro @tb_fieldOff_77_1 @tb_isAggT_3) (And.intro @tb_cellsT_3 (And.intro @tb_callable_32 @tb_callable_33))))
abbrev tf15 := (And.intro (And.intro (And.intro (And.intro @tb_res_15 @tb_callable_12) (And.intro @tb_callable_34 @tb_convT_82_3)) (And.intro (And.intro @tb_callable_30 @tb_eqT_26) (And.intro @tb_callable_35 (And.intro @tb_bsT_50_1 @tb_callable_36)))) (And.intro (And.intro (And.intro @tb_convT_2_82 @tb_indexT_50) (And.intro @tb_isAggT_2 @tb_cellsT_2)) (And.intro (And.intro @tb_convT_82_2 @tb_callable_14) (And.intro @tb_callable_25 (And.intro @tb_callable_37 @tb_callable_17)))))
abbrev tf16 := (And.intro (And.intro (And.intro (And.intro @tb_res_16 @tb_callable_12) (And.intro @tb_callable_34 (And.intro @tb_convT_82_3 @tb_zeroT_40))) (And.intro (And.intro @tb_lenT_53 (And.intro @tb_callable_30 @tb_eqT_26)) (And.intro @tb_isAggT_40 (And.intro @tb_cellsT_40 @tb_callable_38)))) (And.intro (And.intro (And.intro @tb_fieldOff_40_0 @tb_isAggT_38) (And.intro @tb_cellsT_38 (And.intro @tb_fieldOff_40_1 @tb_isAggT_2))) (And.intro (And.intro @tb_cellsT_2 (And.intro @tb_bsT_53_1 @tb_callable_14)) (And.intro @tb_callable_26 (And.intro @tb_callable_37 @tb_callable_17)))))
abbrev tf17 := (And.intro @tb_res_17 @tb_ifaceT_29)
abbrev tf18 := (And.intro (And.intro @tb_res_18 (And.intro @tb_buildT_88 @tb_zeroT_88)) (And.intro @tb_fieldOff_88_0 (And.intro @tb_isAggT_22 @tb_cellsT_22)))
abbrev tf19 := (And.intro (And.intro (And.intro (And.intro @tb_res_19 @tb_convT_3_82) (And.intro @tb_callable_39 @tb_fieldOff_88_1)) (And.intro (And.intro @tb_isAggT_3 @tb_cellsT_3) (And.intro @tb_callable_41 (And.intro @tb_callable_40 @tb_fieldOff_88_3)))) (And.intro (And.intro (And.intro @tb_fieldOff_31_0 @tb_isAggT_29) (And.intro @tb_cellsT_29 (And.intro @tb_fieldOff_88_0 @tb_isAggT_22))) (And.intro (And.intro @tb_cellsT_22 @tb_lenT_22) (And.intro @tb_convT_82_3 (And.intro @tb_indexT_22 @tb_fieldOff_88_2)))))
abbrev tf20 := (And.intro (And.intro (And.intro @tb_res_20 (And.intro @tb_isAggT_31 @tb_cellsT_31)) (And.intro (And.intro @tb_zeroT_31 @tb_fieldOff_88_3) (And.intro @tb_fieldOff_31_0 @tb_isAggT_29))) (And.intro (And.intro (And.intro @tb_cellsT_29 @tb_callable_42) (And.intro @tb_fieldOff_88_1 @tb_isAggT_3)) (And.intro (And.intro @tb_cellsT_3 @tb_callable_41) (And.intro @tb_callable_43 @tb_buildT_31))))
abbrev tf21 := (And.intro (And.intro (And.intro (And.intro @tb_res_21 (And.intro @tb_isAggT_31 @tb_cellsT_31)) (And.intro @tb_zeroT_31 (And.intro @tb_callable_18 @tb_callable_44))) (And.intro (And.intro @tb_convT_82_3 (And.intro @tb_callable_45 @tb_fieldAt_31_0)) (And.intro @tb_callable_46 (And.intro @tb_bsT_50_1 @tb_callable_47)))) (And.intro (And.intro (And.intro @tb_indexT_50 (And.intro @tb_isAggT_2 @tb_cellsT_2)) (And.intro @tb_convT_2_82 (And.intro @tb_convT_82_2 @tb_callable_20))) (And.intro (And.intro @tb_fieldOff_31_0 (And.intro @tb_isAggT_29 @tb_cellsT_29)) (And.intro (And.intro @tb_callable_48 @tb_callable_49) (And.intro @tb_callable_23 @tb_buildT_31)))))
abbrev tf22 := (And.intro (And.intro (And.intro (And.intro @tb_res_22 (And.intro @tb_isAggT_31 @tb_cellsT_31)) (And.intro @tb_zeroT_31 (And.intro @tb_callable_18 @tb_callable_44))) (And.intro (And.intro @tb_convT_82_3 (And.intro @tb_buildT_40 @tb_zeroT_40)) (And.intro (And.intro @tb_isAggT_40 @tb_cellsT_40) (And.intro @tb_callable_45 @tb_fieldAt_31_0)))) (And.intro (And.intro (And.intro @tb_callable_50 (And.intro @tb_convT_82_38 @tb_convT_2_82)) (And.intro (And.intro @tb_callable_51 @tb_convT_82_2) (And.intro @tb_bsT_53_1 @tb_callable_20))) (And.intro (And.intro @tb_fieldOff_31_0 (And.intro @tb_isAggT_29 @tb_cellsT_29)) (And.intro (And.intro @tb_callable_52 @tb_callable_49) (And.intro @tb_callable_23 @tb_buildT_31)))))
abbrev tf23 := (And.intro (And.intro @tb_res_23 @tb_isAggT_31) (And.intro @tb_cellsT_31 (And.intro @tb_zeroT_31 @tb_buildT_31)))
abbrev tf24 := (And.intro (And.intro (And.intro @tb_res_24 (And.intro @tb_eqT_26 @tb_eqT_20)) (And.intro @tb_ifaceT_9 (And.intro @tb_callable_53 @tb_zeroT_102))) (And.intro (And.intro @tb_isAggT_102 (And.intro @tb_cellsT_102 @tb_callable_54)) (And.intro (And.intro @tb_callable_55 @tb_isAggT_105) (And.intro @tb_cellsT_105 @tb_callable_56))))
abbrev tf25 := (And.intro (And.intro (And.intro @tb_res_25 (And.intro @tb_lenT_50 @tb_callable_17)) (And.intro (And.intro @tb_zeroT_112 @tb_convT_3_82) (And.intro @tb_callable_57 @tb_indexT_50))) (And.intro (And.intro @tb_isAggT_2 (And.intro @tb_cellsT_2 @tb_callable_58)) (And.intro (And.intro @tb_convT_2_82 @tb_convT_82_2) (And.intro @tb_callable_59 @tb_callable_60))))
abbrev tf26 := (And.intro (And.intro (And.intro (And.intro @tb_res_26 @tb_lenT_53) (And.intro @tb_callable_17 (And.intro @tb_zeroT_112 @tb_convT_3_82))) (And.intro (And.intro @tb_callable_57 (And.intro @tb_zeroT_40 @tb_indexT_53)) (And.intro @tb_isAggT_40 (And.intro @tb_cellsT_40 @tb_callable_61)))) (And.intro (And.intro (And.intro @tb_eqT_40 (And.intro @tb_eqS_40 @tb_callable_62)) (And.intro @tb_fieldOff_40_0 (And.intro @tb_isAggT_38 @tb_cellsT_38))) (And.intro (And.intro @tb_fieldOff_40_1 (And.intro @tb_isAggT_2 @tb_cellsT_2)) (And.intro @tb_callable_63 (And.intro @tb_callable_64 @tb_callable_60)))))
abbrev tf27 := (And.intro (And.intro @tb_res_27 @tb_lenT_22) (And.intro @tb_indexT_22 (And.intro @tb_isAggT_5 @tb_cellsT_5)))
abbrev tf28 := (And.intro @tb_res_28 (And.intro @tb_eqT_22 @tb_bsT_22_0))
abbrev tf29 := (And.intro (And.intro (And.intro (And.intro @tb_res_29 (And.intro @tb_callable_65 @tb_fieldOff_79_0)) (And.intro @tb_isAggT_77 (And.intro @tb_cellsT_77 @tb_zeroT_77))) (And.intro (And.intro @tb_convT_3_82 (And.intro @tb_callable_66 @tb_fieldOff_79_1)) (And.intro @tb_isAggT_26 (And.intro @tb_cellsT_26 @tb_eqT_26)))) (And.intro (And.intro (And.intro @tb_fieldOff_77_1 (And.intro @tb_isAggT_3 @tb_cellsT_3)) (And.intro @tb_callable_32 (And.intro @tb_callable_67 @tb_callable_33))) (And.intro (And.intro @tb_fieldOff_77_0 (And.intro @tb_isAggT_22 @tb_cellsT_22)) (And.intro @tb_lenT_22 (And.intro @tb_convT_82_3 @tb_callable_68)))))
abbrev tf30 := (And.intro (And.intro @tb_res_30 (And.intro @tb_eqT_46 @tb_callable_17)) (And.intro @tb_fieldOff_79_1 (And.intro @tb_isAggT_26 @tb_cellsT_26)))
abbrev tf31 := (And.intro (And.intro (And.intro @tb_res_31 @tb_fieldOff_77_2) (And.intro @tb_isAggT_3 (And.intro @tb_cellsT_3 @tb_fieldOff_77_0))) (And.intro (And.intro @tb_isAggT_22 (And.intro @tb_cellsT_22 @tb_fieldOff_77_1)) (And.intro @tb_indexT_22 (And.intro @tb_isAggT_5 @tb_cellsT_5))))
abbrev tf32 := (And.intro (And.intro @tb_res_32 @tb_ifaceT_29) (And.intro @tb_buildT_66 @tb_ifaceT_66))
abbrev tf33 := (And.intro (And.intro @tb_res_33 @tb_eqT_46) (And.intro @tb_fieldOff_79_0 @tb_callable_69))
abbrev tf34 := (And.intro @tb_res_34 @tb_callable_66)
abbrev tf35 := (And.intro @tb_res_35 (And.intro @tb_callable_66 @tb_convT_82_2))
abbrev tf36 := (And.intro (And.intro (And.intro @tb_res_36 (And.intro @tb_callable_70 @tb_lenT_126)) (And.intro (And.intro @tb_indexT_126 @tb_isAggT_129) (And.intro @tb_cellsT_129 @tb_zeroT_129))) (And.intro (And.intro (And.intro @tb_callable_71 @tb_fieldOff_129_4) (And.intro @tb_isAggT_3 @tb_cellsT_3)) (And.intro (And.intro @tb_convT_82_2 @tb_fieldOff_129_2) (And.intro @tb_isAggT_2 @tb_cellsT_2))))
abbrev tf37 := (And.intro @tb_res_37 @tb_convT_22_9)
abbrev tf38 := (And.intro (And.intro (And.intro @tb_res_38 @tb_isAggT_40) (And.intro @tb_cellsT_40 @tb_zeroT_40)) (And.intro (And.intro @tb_callable_71 @tb_convT_82_3) (And.intro @tb_convT_82_2 @tb_buildT_40)))
abbrev tf39 := (And.intro (And.intro (And.intro @tb_res_39 (And.intro @tb_callable_72 @tb_fieldOff_88_1)) (And.intro (And.intro @tb_isAggT_3 @tb_cellsT_3) (And.intro @tb_fieldOff_88_0 @tb_isAggT_22))) (And.intro (And.intro (And.intro @tb_cellsT_22 @tb_lenT_22) (And.intro @tb_callable_41 @tb_callable_40)) (And.intro (And.intro @tb_indexT_22 @tb_isAggT_5) (And.intro @tb_cellsT_5 @tb_convT_5_82))))
abbrev tf40 := (And.intro (And.intro (And.intro @tb_res_40 @tb_zeroT_31) (And.intro @tb_fieldOff_88_3 @tb_fieldOff_31_0)) (And.intro (And.intro @tb_isAggT_29 @tb_cellsT_29) (And.intro @tb_isAggT_31 @tb_cellsT_31)))
abbrev tf41 := (And.intro (And.intro @tb_res_41 @tb_isAggT_31) (And.intro @tb_cellsT_31 (And.intro @tb_zeroT_31 @tb_buildT_31)))
abbrev tf42 := (And.intro (And.intro (And.intro @tb_res_42 (And.intro @tb_fieldOff_88_2 @tb_isAggT_3)) (And.intro @tb_cellsT_3 (And.intro @tb_fieldOff_88_0 @tb_isAggT_22))) (And.intro (And.intro @tb_cellsT_22 (And.intro @tb_fieldOff_88_1 @tb_indexT_22)) (And.intro @tb_isAggT_5 (And.intro @tb_cellsT_5 @tb_convT_5_3))))
abbrev tf43 := (And.intro (And.intro (And.intro @tb_res_43 @tb_eqT_57) (And.intro @tb_fieldOff_88_0 @tb_isAggT_22)) (And.intro (And.intro @tb_cellsT_22 @tb_lenT_22) (And.intro @tb_fieldOff_88_1 (And.intro @tb_isAggT_3 @tb_cellsT_3))))
abbrev tf44 := (And.intro (And.intro @tb_res_44 (And.intro @tb_callable_39 @tb_fieldOff_88_1)) (And.intro @tb_isAggT_3 (And.intro @tb_cellsT_3 @tb_fieldOff_88_2)))
abbrev tf45 := (And.intro (And.intro @tb_res_45 @tb_isAggT_31) (And.intro @tb_cellsT_31 (And.intro @tb_zeroT_31 @tb_fieldOff_88_3)))
abbrev tf46 := (And.intro @tb_res_46 (And.intro @tb_callable_44 @tb_callable_51))
abbrev tf47 := (And.intro @tb_res_47 @tb_callable_50)
abbrev tf48 := (And.intro (And.intro (And.intro (And.intro @tb_res_48 @tb_isAggT_31) (And.intro @tb_cellsT_31 (And.intro @tb_zeroT_31 @tb_lenT_50))) (And.intro (And.intro @tb_callable_23 (And.intro @tb_callable_73 @tb_buildT_134)) (And.intro @tb_zeroT_134 (And.intro @tb_convT_3_82 @tb_callable_74)))) (And.intro (And.intro (And.intro @tb_indexT_50 (And.intro @tb_isAggT_2 @tb_cellsT_2)) (And.intro @tb_callable_75 (And.intro @tb_convT_2_82 @tb_convT_82_2))) (And.intro (And.intro @tb_callable_76 (And.intro @tb_callable_77 @tb_fieldOff_134_0)) (And.intro @tb_isAggT_22 (And.intro @tb_cellsT_22 @tb_buildT_31)))))
abbrev tf49 := (And.intro @tb_res_49 @tb_convT_22_9)
abbrev tf50 := (And.intro (And.intro (And.intro (And.intro @tb_res_50 @tb_callable_78) (And.intro @tb_fieldOff_88_0 (And.intro @tb_isAggT_22 @tb_cellsT_22))) (And.intro (And.intro @tb_lenT_22 @tb_fieldOff_88_1) (And.intro @tb_isAggT_3 (And.intro @tb_cellsT_3 @tb_fieldOff_88_2)))) (And.intro (And.intro (And.intro @tb_fieldOff_88_3 @tb_fieldOff_31_0) (And.intro @tb_isAggT_29 (And.intro @tb_cellsT_29 @tb_callable_41))) (And.intro (And.intro @tb_callable_40 @tb_indexT_22) (And.intro @tb_isAggT_5 (And.intro @tb_cellsT_5 @tb_convT_5_82)))))
abbrev tf51 := (And.intro @tb_res_51 @tb_convT_82_2)
abbrev tf52 := (And.intro (And.intro (And.intro (And.intro (And.intro @tb_res_52 @tb_isAggT_31) (And.intro @tb_cellsT_31 @tb_zeroT_31)) (And.intro (And.intro @tb_lenT_53 @tb_callable_23) (And.intro @tb_buildT_134 @tb_zeroT_134))) (And.intro (And.intro (And.intro @tb_convT_3_82 @tb_callable_74) (And.intro @tb_buildT_40 @tb_zeroT_40)) (And.intro (And.intro @tb_isAggT_40 @tb_cellsT_40) (And.intro @tb_indexT_53 (And.intro @tb_callable_79 @tb_eqT_40))))) (And.intro (And.intro (And.intro (And.intro @tb_eqS_40 @tb_callable_77) (And.intro @tb_fieldOff_40_0 @tb_isAggT_38)) (And.intro (And.intro @tb_cellsT_38 @tb_fieldOff_40_1) (And.intro @tb_isAggT_2 @tb_cellsT_2))) (And.intro (And.intro (And.intro @tb_convT_2_82 @tb_convT_82_2) (And.intro @tb_callable_80 @tb_callable_81)) (And.intro (And.intro @tb_convT_38_82 @tb_fieldOff_134_0) (And.intro @tb_isAggT_22 (And.intro @tb_cellsT_22 @tb_buildT_31))))))
abbrev tf56 := (And.intro (And.intro (And.intro (And.intro @tb_res_56 @tb_zeroT_102) (And.intro @tb_callable_82 @tb_isAggT_102)) (And.intro (And.intro @tb_cellsT_102 @tb_callable_83) (And.intro @tb_callable_53 @tb_callable_84))) (And.intro (And.intro (And.intro @tb_ifaceT_144 @tb_ifaceT_147) (And.intro @tb_eqT_26 @tb_ifaceT_148)) (And.intro (And.intro @tb_lenT_149 @tb_indexT_149) (And.intro @tb_isAggT_26 (And.intro @tb_cellsT_26 @tb_callable_56)))))
abbrev tf57 := (And.intro (And.intro @tb_res_57 @tb_convT_82_5) (And.intro @tb_bsT_22_1 @tb_callable_85))
abbrev tf58 := (And.intro @tb_res_58 (And.intro @tb_convT_2_82 @tb_callable_57))
abbrev tf59 := (And.intro (And.intro (And.intro (And.intro @tb_res_59 @tb_callable_70) (And.intro @tb_lenT_126 @tb_indexT_126)) (And.intro (And.intro @tb_isAggT_129 @tb_cellsT_129) (And.intro @tb_zeroT_129 (And.intro @tb_fieldOff_129_2 @tb_isAggT_2)))) (And.intro (And.intro (And.intro @tb_cellsT_2 @tb_fieldOff_129_3) (And.intro @tb_fieldOff_129_0 (And.intro @tb_isAggT_3 @tb_cellsT_3))) (And.intro (And.intro @tb_convT_3_82 @tb_fieldOff_129_1) (And.intro @tb_callable_62 (And.intro @tb_convT_2_82 @tb_fieldOff_129_4)))))
abbrev tf60 := (And.intro (And.intro @tb_res_60 (And.intro @tb_eqT_116 @tb_fieldOff_112_0)) (And.intro @tb_isAggT_22 (And.intro @tb_cellsT_22 @tb_callable_28)))
abbrev tf61 := (And.intro (And.intro (And.intro @tb_res_61 @tb_zeroT_40) (And.intro @tb_fieldOff_40_0 @tb_isAggT_38)) (And.intro (And.intro @tb_cellsT_38 @tb_fieldOff_40_1) (And.intro @tb_isAggT_2 @tb_cellsT_2)))
abbrev tf62 := (And.intro (And.intro (And.intro @tb_res_62 (And.intro @tb_eqT_116 @tb_fieldOff_112_1)) (And.intro (And.intro @tb_isAggT_3 @tb_cellsT_3) (And.intro @tb_fieldOff_112_0 @tb_isAggT_22))) (And.intro (And.intro @tb_cellsT_22 (And.intro @tb_bsT_22_1 @tb_lenT_22)) (And.intro (And.intro @tb_indexT_22 @tb_isAggT_5) (And.intro @tb_cellsT_5 @tb_convT_82_5))))
abbrev tf63 := (And.intro @tb_res_63 @tb_convT_2_82)
abbrev tf64 := (And.intro (And.intro @tb_res_64 @tb_convT_82_5) (And.intro @tb_indexT_9 @tb_convT_5_3))
abbrev tf65 := (And.intro (And.intro (And.intro @tb_res_65 (And.intro @tb_eqT_46 @tb_fieldOff_79_1)) (And.intro @tb_isAggT_26 (And.intro @tb_cellsT_26 @tb_eqT_26))) (And.intro (And.intro @tb_fieldOff_79_0 (And.intro @tb_callable_31 @tb_fieldOff_77_1)) (And.intro (And.intro @tb_isAggT_3 @tb_cellsT_3) (And.intro @tb_callable_32 @tb_callable_67))))
abbrev tf66 := (And.intro (And.intro (And.intro (And.intro @tb_res_66 @tb_callable_65) (And.intro @tb_fieldOff_79_0 @tb_fieldOff_77_1)) (And.intro (And.intro @tb_isAggT_3 @tb_cellsT_3) (And.intro @tb_fieldOff_77_0 @tb_isAggT_22))) (And.intro (And.intro (And.intro @tb_cellsT_22 @tb_lenT_22) (And.intro @tb_callable_32 @tb_callable_67)) (And.intro (And.intro @tb_indexT_22 @tb_isAggT_5) (And.intro @tb_cellsT_5 (And.intro @tb_convT_5_82 @tb_fieldOff_77_2)))))
abbrev tf67 := (And.intro (And.intro @tb_res_67 (And.intro @tb_eqT_46 @tb_fieldOff_79_1)) (And.intro @tb_isAggT_26 (And.intro @tb_cellsT_26 @tb_eqT_26)))
abbrev tf68 := (And.intro (And.intro (And.intro @tb_res_68 (And.intro @tb_callable_65 @tb_callable_33)) (And.intro (And.intro @tb_fieldOff_79_0 @tb_fieldOff_77_0) (And.intro @tb_isAggT_22 @tb_cellsT_22))) (And.intro (And.intro (And.intro @tb_lenT_22 @tb_callable_32) (And.intro @tb_callable_67 @tb_fieldOff_77_1)) (And.intro (And.intro @tb_isAggT_3 @tb_cellsT_3) (And.intro @tb_fieldOff_77_2 @tb_indexT_22))))
abbrev tf69 := (And.intro (And.intro (And.intro @tb_res_69 @tb_eqT_124) (And.intro @tb_fieldOff_77_0 @tb_isAggT_22)) (And.intro (And.intro @tb_cellsT_22 @tb_lenT_22) (And.intro @tb_fieldOff_77_1 (And.intro @tb_isAggT_3 @tb_cellsT_3))))
abbrev tf70 := (And.intro @tb_res_70 (And.intro @tb_buildT_129 @tb_bsT_126_4))
abbrev tf71 := (And.intro (And.intro (And.intro (And.intro @tb_res_71 @tb_eqT_46) (And.intro @tb_fieldOff_79_1 (And.intro @tb_isAggT_26 @tb_cellsT_26))) (And.intro (And.intro @tb_eqT_26 (And.intro @tb_fieldOff_79_0 @tb_fieldOff_77_2)) (And.intro @tb_isAggT_3 (And.intro @tb_cellsT_3 @tb_callable_33)))) (And.intro (And.intro (And.intro @tb_fieldOff_77_0 @tb_isAggT_22) (And.intro @tb_cellsT_22 (And.intro @tb_lenT_22 @tb_callable_32))) (And.intro (And.intro @tb_callable_67 (And.intro @tb_fieldOff_77_1 @tb_indexT_22)) (And.intro @tb_isAggT_5 (And.intro @tb_cellsT_5 @tb_convT_5_82)))))
abbrev tf72 := (And.intro (And.intro (And.intro @tb_res_72 (And.intro @tb_fieldOff_88_3 @tb_fieldOff_31_0)) (And.intro (And.intro @tb_isAggT_29 @tb_cellsT_29) (And.intro @tb_callable_42 @tb_fieldOff_88_1))) (And.intro (And.intro (And.intro @tb_isAggT_3 @tb_cellsT_3) (And.intro @tb_callable_41 @tb_callable_40)) (And.intro (And.intro @tb_fieldOff_88_0 @tb_isAggT_22) (And.intro @tb_cellsT_22 @tb_lenT_22))))
abbrev tf73 := (And.intro (And.intro @tb_res_73 @tb_lenT_50) (And.intro @tb_indexT_50 (And.intro @tb_isAggT_2 @tb_cellsT_2)))
abbrev tf74 := (And.intro @tb_res_74 (And.intro @tb_convT_82_5 @tb_callable_86))
abbrev tf75 := (And.intro @tb_res_75 (And.intro @tb_callable_80 @tb_callable_74))
abbrev tf76 := @tb_res_76
abbrev tf77 := (And.intro (And.intro (And.intro @tb_res_77 (And.intro @tb_callable_78 @tb_fieldOff_134_1)) (And.intro @tb_isAggT_3 (And.intro @tb_cellsT_3 @tb_fieldOff_134_0))) (And.intro (And.intro @tb_isAggT_22 (And.intro @tb_cellsT_22 @tb_bsT_22_1)) (And.intro (And.intro @tb_lenT_22 @tb_indexT_22) (And.intro @tb_isAggT_5 @tb_cellsT_5))))
abbrev tf78 := @tb_res_78
abbrev tf79 := (And.intro (And.intro (And.intro @tb_res_79 @tb_zeroT_40) (And.intro @tb_fieldOff_40_0 @tb_isAggT_38)) (And.intro (And.intro @tb_cellsT_38 @tb_fieldOff_40_1) (And.intro @tb_isAggT_2 @tb_cellsT_2)))
abbrev tf80 := (And.intro @tb_res_80 @tb_convT_2_82)
abbrev tf81 := @tb_res_81
abbrev tf85 := (And.intro (And.intro (And.intro @tb_res_85 @tb_eqT_116) (And.intro @tb_fieldOff_112_0 @tb_isAggT_22)) (And.intro (And.intro @tb_cellsT_22 @tb_fieldOff_112_1) (And.intro @tb_isAggT_3 @tb_cellsT_3)))
abbrev tf86 := (And.intro (And.intro (And.intro @tb_res_86 @tb_fieldOff_134_0) (And.intro @tb_isAggT_22 @tb_cellsT_22)) (And.intro (And.intro @tb_bsT_22_1 @tb_fieldOff_134_1) (And.intro @tb_isAggT_3 @tb_cellsT_3)))
abbrev tf108 := (And.intro (And.intro @tb_res_108 @tb_zeroT_66) (And.intro @tb_fieldOff_66_1 (And.intro @tb_isAggT_26 @tb_cellsT_26)))
abbrev tf110 := (And.intro (And.intro @tb_res_110 @tb_zeroT_68) (And.intro @tb_fieldOff_68_1 (And.intro @tb_isAggT_26 @tb_cellsT_26)))
abbrev tf131 := (And.intro (And.intro @tb_res_131 @tb_ifaceT_181) (And.intro @tb_callable_82 (And.intro @tb_isAggT_105 @tb_cellsT_105)))
end Go.Proofs.YtmgiichlccdcfaaGreatDoor
