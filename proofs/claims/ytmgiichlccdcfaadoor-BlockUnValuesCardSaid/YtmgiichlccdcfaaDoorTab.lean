/- Closed facts on the tables of the program, each by the kernel: written by a program. -/
import Derived.Test.YtmgiichlccdcfaaDoorDen
import Derived.Test.YtmgiichlccdcfaaDoorProg
import Derived.KernelRfl
set_option maxRecDepth 100000
namespace Go.Proofs.YtmgiichlccdcfaaDoor
open Go
theorem mixed : Tryd.prog.follows .mixedOrders = true := by kernel_rfl
theorem tb_bsT_106_4 : bsT Tryd.prog 106 4 = some (109, 5, #[.int .i64 0, .int .i64 0, .int .i64 0, .int .i64 0, .int .i64 0, .int .i64 0, .int .i64 0, .int .i64 0, .int .i64 0, .int .i64 0, .int .i64 0, .int .i64 0, .int .i64 0, .int .i64 0, .int .i64 0, .int .i64 0, .int .i64 0, .int .i64 0, .int .i64 0, .int .i64 0]) := by kernel_rfl
theorem tb_bsT_22_0 : bsT Tryd.prog 22 0 = some (2, 1, #[]) := by kernel_rfl
theorem tb_bsT_22_1 : bsT Tryd.prog 22 1 = some (2, 1, #[.int .i64 0]) := by kernel_rfl
theorem tb_bsT_22_3 : bsT Tryd.prog 22 3 = some (2, 1, #[.int .i64 0, .int .i64 0, .int .i64 0]) := by kernel_rfl
theorem tb_bsT_23_0 : bsT Tryd.prog 23 0 = some (5, 1, #[]) := by kernel_rfl
theorem tb_bsT_23_1 : bsT Tryd.prog 23 1 = some (5, 1, #[.int .u8 0]) := by kernel_rfl
theorem tb_bsT_23_3 : bsT Tryd.prog 23 3 = some (5, 1, #[.int .u8 0, .int .u8 0, .int .u8 0]) := by kernel_rfl
theorem tb_bsT_23_5 : bsT Tryd.prog 23 5 = some (5, 1, #[.int .u8 0, .int .u8 0, .int .u8 0, .int .u8 0, .int .u8 0]) := by kernel_rfl
theorem tb_bsT_38_0 : bsT Tryd.prog 38 0 = some (41, 2, #[]) := by kernel_rfl
theorem tb_bsT_38_1 : bsT Tryd.prog 38 1 = some (41, 2, #[.int .u8 0, .int .i64 0]) := by kernel_rfl
theorem tb_bsT_46_0 : bsT Tryd.prog 46 0 = some (48, 3, #[]) := by kernel_rfl
theorem tb_bsT_46_1 : bsT Tryd.prog 46 1 = some (48, 3, #[.int .i64 0, .int .u8 0, .int .i64 0]) := by kernel_rfl
theorem tb_buildT_109 : buildT Tryd.prog 109 = some (#[.int .i64 0, .int .i64 0, .int .i64 0, .int .i64 0, .int .i64 0], [(0, 1), (1, 1), (2, 1), (3, 1), (4, 1)]) := by kernel_rfl
theorem tb_buildT_125 : buildT Tryd.prog 125 = some (#[.slice none 0 0, .int .i64 0, .int .i64 0], [(0, 1), (1, 1), (2, 1)]) := by kernel_rfl
theorem tb_buildT_127 : buildT Tryd.prog 127 = some (#[.slice none 0 0, .int .i64 0, .int .i64 0, .nilIface], [(0, 3), (3, 1)]) := by kernel_rfl
theorem tb_buildT_132 : buildT Tryd.prog 132 = some (#[.slice none 0 0, .int .i64 0, .int .i64 0, .int .i64 0, .int .i64 0, .int .i64 0, .bool false, .bool false], [(0, 1), (1, 1), (2, 1), (3, 5)]) := by kernel_rfl
theorem tb_buildT_30 : buildT Tryd.prog 30 = some (#[.int .i64 0, .int .i64 0, .int .i64 0, .bool false, .bool false], [(0, 1), (1, 1), (2, 1), (3, 1), (4, 1)]) := by kernel_rfl
theorem tb_buildT_41 : buildT Tryd.prog 41 = some (#[.int .u8 0, .int .i64 0], [(0, 1), (1, 1)]) := by kernel_rfl
theorem tb_buildT_48 : buildT Tryd.prog 48 = some (#[.int .i64 0, .int .u8 0, .int .i64 0], [(0, 1), (1, 2)]) := by kernel_rfl
theorem tb_buildT_75 : buildT Tryd.prog 75 = some (#[.slice none 0 0, .int .i64 0], [(0, 1), (1, 1)]) := by kernel_rfl
theorem tb_buildT_80 : buildT Tryd.prog 80 = some (#[.int .i64 0, .nilIface], [(0, 1), (1, 1)]) := by kernel_rfl
theorem tb_callable_1 : callable Tryd.prog 1 = false := by kernel_rfl
theorem tb_callable_10 : callable Tryd.prog 10 = true := by kernel_rfl
theorem tb_callable_11 : callable Tryd.prog 11 = true := by kernel_rfl
theorem tb_callable_110 : callable Tryd.prog 110 = true := by kernel_rfl
theorem tb_callable_112 : callable Tryd.prog 112 = true := by kernel_rfl
theorem tb_callable_12 : callable Tryd.prog 12 = true := by kernel_rfl
theorem tb_callable_13 : callable Tryd.prog 13 = true := by kernel_rfl
theorem tb_callable_134 : callable Tryd.prog 134 = true := by kernel_rfl
theorem tb_callable_14 : callable Tryd.prog 14 = true := by kernel_rfl
theorem tb_callable_15 : callable Tryd.prog 15 = true := by kernel_rfl
theorem tb_callable_16 : callable Tryd.prog 16 = true := by kernel_rfl
theorem tb_callable_17 : callable Tryd.prog 17 = true := by kernel_rfl
theorem tb_callable_18 : callable Tryd.prog 18 = true := by kernel_rfl
theorem tb_callable_19 : callable Tryd.prog 19 = true := by kernel_rfl
theorem tb_callable_2 : callable Tryd.prog 2 = true := by kernel_rfl
theorem tb_callable_20 : callable Tryd.prog 20 = true := by kernel_rfl
theorem tb_callable_21 : callable Tryd.prog 21 = true := by kernel_rfl
theorem tb_callable_22 : callable Tryd.prog 22 = true := by kernel_rfl
theorem tb_callable_23 : callable Tryd.prog 23 = true := by kernel_rfl
theorem tb_callable_24 : callable Tryd.prog 24 = true := by kernel_rfl
theorem tb_callable_25 : callable Tryd.prog 25 = true := by kernel_rfl
theorem tb_callable_26 : callable Tryd.prog 26 = true := by kernel_rfl
theorem tb_callable_27 : callable Tryd.prog 27 = true := by kernel_rfl
theorem tb_callable_28 : callable Tryd.prog 28 = true := by kernel_rfl
theorem tb_callable_29 : callable Tryd.prog 29 = true := by kernel_rfl
theorem tb_callable_3 : callable Tryd.prog 3 = true := by kernel_rfl
theorem tb_callable_30 : callable Tryd.prog 30 = true := by kernel_rfl
theorem tb_callable_31 : callable Tryd.prog 31 = true := by kernel_rfl
theorem tb_callable_32 : callable Tryd.prog 32 = true := by kernel_rfl
theorem tb_callable_33 : callable Tryd.prog 33 = true := by kernel_rfl
theorem tb_callable_34 : callable Tryd.prog 34 = true := by kernel_rfl
theorem tb_callable_35 : callable Tryd.prog 35 = true := by kernel_rfl
theorem tb_callable_36 : callable Tryd.prog 36 = true := by kernel_rfl
theorem tb_callable_37 : callable Tryd.prog 37 = true := by kernel_rfl
theorem tb_callable_38 : callable Tryd.prog 38 = true := by kernel_rfl
theorem tb_callable_39 : callable Tryd.prog 39 = true := by kernel_rfl
theorem tb_callable_4 : callable Tryd.prog 4 = true := by kernel_rfl
theorem tb_callable_40 : callable Tryd.prog 40 = true := by kernel_rfl
theorem tb_callable_41 : callable Tryd.prog 41 = true := by kernel_rfl
theorem tb_callable_42 : callable Tryd.prog 42 = true := by kernel_rfl
theorem tb_callable_43 : callable Tryd.prog 43 = true := by kernel_rfl
theorem tb_callable_44 : callable Tryd.prog 44 = true := by kernel_rfl
theorem tb_callable_45 : callable Tryd.prog 45 = true := by kernel_rfl
theorem tb_callable_46 : callable Tryd.prog 46 = true := by kernel_rfl
theorem tb_callable_47 : callable Tryd.prog 47 = true := by kernel_rfl
theorem tb_callable_48 : callable Tryd.prog 48 = true := by kernel_rfl
theorem tb_callable_49 : callable Tryd.prog 49 = true := by kernel_rfl
theorem tb_callable_5 : callable Tryd.prog 5 = true := by kernel_rfl
theorem tb_callable_50 : callable Tryd.prog 50 = true := by kernel_rfl
theorem tb_callable_51 : callable Tryd.prog 51 = true := by kernel_rfl
theorem tb_callable_52 : callable Tryd.prog 52 = true := by kernel_rfl
theorem tb_callable_53 : callable Tryd.prog 53 = true := by kernel_rfl
theorem tb_callable_54 : callable Tryd.prog 54 = true := by kernel_rfl
theorem tb_callable_55 : callable Tryd.prog 55 = true := by kernel_rfl
theorem tb_callable_56 : callable Tryd.prog 56 = true := by kernel_rfl
theorem tb_callable_57 : callable Tryd.prog 57 = true := by kernel_rfl
theorem tb_callable_58 : callable Tryd.prog 58 = true := by kernel_rfl
theorem tb_callable_59 : callable Tryd.prog 59 = true := by kernel_rfl
theorem tb_callable_6 : callable Tryd.prog 6 = true := by kernel_rfl
theorem tb_callable_60 : callable Tryd.prog 60 = true := by kernel_rfl
theorem tb_callable_61 : callable Tryd.prog 61 = true := by kernel_rfl
theorem tb_callable_62 : callable Tryd.prog 62 = true := by kernel_rfl
theorem tb_callable_63 : callable Tryd.prog 63 = true := by kernel_rfl
theorem tb_callable_64 : callable Tryd.prog 64 = true := by kernel_rfl
theorem tb_callable_65 : callable Tryd.prog 65 = true := by kernel_rfl
theorem tb_callable_66 : callable Tryd.prog 66 = true := by kernel_rfl
theorem tb_callable_67 : callable Tryd.prog 67 = true := by kernel_rfl
theorem tb_callable_68 : callable Tryd.prog 68 = true := by kernel_rfl
theorem tb_callable_69 : callable Tryd.prog 69 = false := by kernel_rfl
theorem tb_callable_7 : callable Tryd.prog 7 = true := by kernel_rfl
theorem tb_callable_70 : callable Tryd.prog 70 = false := by kernel_rfl
theorem tb_callable_71 : callable Tryd.prog 71 = false := by kernel_rfl
theorem tb_callable_72 : callable Tryd.prog 72 = true := by kernel_rfl
theorem tb_callable_73 : callable Tryd.prog 73 = true := by kernel_rfl
theorem tb_callable_74 : callable Tryd.prog 74 = true := by kernel_rfl
theorem tb_callable_75 : callable Tryd.prog 75 = true := by kernel_rfl
theorem tb_callable_76 : callable Tryd.prog 76 = true := by kernel_rfl
theorem tb_callable_77 : callable Tryd.prog 77 = true := by kernel_rfl
theorem tb_callable_78 : callable Tryd.prog 78 = true := by kernel_rfl
theorem tb_callable_79 : callable Tryd.prog 79 = true := by kernel_rfl
theorem tb_callable_8 : callable Tryd.prog 8 = true := by kernel_rfl
theorem tb_callable_80 : callable Tryd.prog 80 = true := by kernel_rfl
theorem tb_callable_81 : callable Tryd.prog 81 = true := by kernel_rfl
theorem tb_callable_82 : callable Tryd.prog 82 = true := by kernel_rfl
theorem tb_callable_83 : callable Tryd.prog 83 = false := by kernel_rfl
theorem tb_callable_84 : callable Tryd.prog 84 = false := by kernel_rfl
theorem tb_callable_85 : callable Tryd.prog 85 = false := by kernel_rfl
theorem tb_callable_86 : callable Tryd.prog 86 = true := by kernel_rfl
theorem tb_callable_87 : callable Tryd.prog 87 = true := by kernel_rfl
theorem tb_callable_88 : callable Tryd.prog 88 = true := by kernel_rfl
theorem tb_callable_89 : callable Tryd.prog 89 = true := by kernel_rfl
theorem tb_callable_9 : callable Tryd.prog 9 = true := by kernel_rfl
theorem tb_cellsT_109 : cellsT Tryd.prog 109 = some 5 := by kernel_rfl
theorem tb_cellsT_115 : cellsT Tryd.prog 115 = some 3 := by kernel_rfl
theorem tb_cellsT_118 : cellsT Tryd.prog 118 = some 1 := by kernel_rfl
theorem tb_cellsT_2 : cellsT Tryd.prog 2 = some 1 := by kernel_rfl
theorem tb_cellsT_23 : cellsT Tryd.prog 23 = some 1 := by kernel_rfl
theorem tb_cellsT_25 : cellsT Tryd.prog 25 = some 1 := by kernel_rfl
theorem tb_cellsT_28 : cellsT Tryd.prog 28 = some 1 := by kernel_rfl
theorem tb_cellsT_3 : cellsT Tryd.prog 3 = some 1 := by kernel_rfl
theorem tb_cellsT_30 : cellsT Tryd.prog 30 = some 5 := by kernel_rfl
theorem tb_cellsT_39 : cellsT Tryd.prog 39 = some 1 := by kernel_rfl
theorem tb_cellsT_4 : cellsT Tryd.prog 4 = some 1 := by kernel_rfl
theorem tb_cellsT_41 : cellsT Tryd.prog 41 = some 2 := by kernel_rfl
theorem tb_cellsT_48 : cellsT Tryd.prog 48 = some 3 := by kernel_rfl
theorem tb_cellsT_5 : cellsT Tryd.prog 5 = some 1 := by kernel_rfl
theorem tb_convT_23_9 : convT Tryd.prog 23 9 = .strStr := by kernel_rfl
theorem tb_convT_2_67 : convT Tryd.prog 2 67 = .toInt .u64 := by kernel_rfl
theorem tb_convT_39_67 : convT Tryd.prog 39 67 = .toInt .u64 := by kernel_rfl
theorem tb_convT_3_5 : convT Tryd.prog 3 5 = .toInt .u8 := by kernel_rfl
theorem tb_convT_3_67 : convT Tryd.prog 3 67 = .toInt .u64 := by kernel_rfl
theorem tb_convT_5_3 : convT Tryd.prog 5 3 = .toInt .i64 := by kernel_rfl
theorem tb_convT_5_67 : convT Tryd.prog 5 67 = .toInt .u64 := by kernel_rfl
theorem tb_convT_67_2 : convT Tryd.prog 67 2 = .toInt .i64 := by kernel_rfl
theorem tb_convT_67_3 : convT Tryd.prog 67 3 = .toInt .i64 := by kernel_rfl
theorem tb_convT_67_39 : convT Tryd.prog 67 39 = .toInt .u8 := by kernel_rfl
theorem tb_convT_67_5 : convT Tryd.prog 67 5 = .toInt .u8 := by kernel_rfl
theorem tb_eqT_151 : eqT Tryd.prog 151 = .ptr := by kernel_rfl
theorem tb_eqT_20 : eqT Tryd.prog 20 = .iface := by kernel_rfl
theorem tb_eqT_23 : eqT Tryd.prog 23 = .sl := by kernel_rfl
theorem tb_eqT_25 : eqT Tryd.prog 25 = .iface := by kernel_rfl
theorem tb_eqT_4 : eqT Tryd.prog 4 = .bool := by kernel_rfl
theorem tb_eqT_41 : eqT Tryd.prog 41 = .struct := by kernel_rfl
theorem tb_eqT_48 : eqT Tryd.prog 48 = .struct := by kernel_rfl
theorem tb_eqT_70 : eqT Tryd.prog 70 = .ptr := by kernel_rfl
theorem tb_eqT_91 : eqT Tryd.prog 91 = .ptr := by kernel_rfl
theorem tb_eqT_96 : eqT Tryd.prog 96 = .ptr := by kernel_rfl
theorem tb_fieldAt_30_0 : fieldAt Tryd.prog 30 0 = some (0, 1, false) := by kernel_rfl
theorem tb_fieldOff_109_0 : fieldOff Tryd.prog 109 0 = some 0 := by kernel_rfl
theorem tb_fieldOff_109_1 : fieldOff Tryd.prog 109 1 = some 1 := by kernel_rfl
theorem tb_fieldOff_109_2 : fieldOff Tryd.prog 109 2 = some 2 := by kernel_rfl
theorem tb_fieldOff_109_3 : fieldOff Tryd.prog 109 3 = some 3 := by kernel_rfl
theorem tb_fieldOff_109_4 : fieldOff Tryd.prog 109 4 = some 4 := by kernel_rfl
theorem tb_fieldOff_125_0 : fieldOff Tryd.prog 125 0 = some 0 := by kernel_rfl
theorem tb_fieldOff_125_1 : fieldOff Tryd.prog 125 1 = some 1 := by kernel_rfl
theorem tb_fieldOff_125_2 : fieldOff Tryd.prog 125 2 = some 2 := by kernel_rfl
theorem tb_fieldOff_127_0 : fieldOff Tryd.prog 127 0 = some 0 := by kernel_rfl
theorem tb_fieldOff_127_1 : fieldOff Tryd.prog 127 1 = some 3 := by kernel_rfl
theorem tb_fieldOff_132_0 : fieldOff Tryd.prog 132 0 = some 0 := by kernel_rfl
theorem tb_fieldOff_132_1 : fieldOff Tryd.prog 132 1 = some 1 := by kernel_rfl
theorem tb_fieldOff_132_2 : fieldOff Tryd.prog 132 2 = some 2 := by kernel_rfl
theorem tb_fieldOff_132_3 : fieldOff Tryd.prog 132 3 = some 3 := by kernel_rfl
theorem tb_fieldOff_30_0 : fieldOff Tryd.prog 30 0 = some 0 := by kernel_rfl
theorem tb_fieldOff_30_1 : fieldOff Tryd.prog 30 1 = some 1 := by kernel_rfl
theorem tb_fieldOff_30_2 : fieldOff Tryd.prog 30 2 = some 2 := by kernel_rfl
theorem tb_fieldOff_30_3 : fieldOff Tryd.prog 30 3 = some 3 := by kernel_rfl
theorem tb_fieldOff_30_4 : fieldOff Tryd.prog 30 4 = some 4 := by kernel_rfl
theorem tb_fieldOff_41_0 : fieldOff Tryd.prog 41 0 = some 0 := by kernel_rfl
theorem tb_fieldOff_41_1 : fieldOff Tryd.prog 41 1 = some 1 := by kernel_rfl
theorem tb_fieldOff_48_0 : fieldOff Tryd.prog 48 0 = some 0 := by kernel_rfl
theorem tb_fieldOff_48_1 : fieldOff Tryd.prog 48 1 = some 1 := by kernel_rfl
theorem tb_fieldOff_65_0 : fieldOff Tryd.prog 65 0 = some 0 := by kernel_rfl
theorem tb_fieldOff_65_1 : fieldOff Tryd.prog 65 1 = some 1 := by kernel_rfl
theorem tb_fieldOff_75_0 : fieldOff Tryd.prog 75 0 = some 0 := by kernel_rfl
theorem tb_fieldOff_75_1 : fieldOff Tryd.prog 75 1 = some 1 := by kernel_rfl
theorem tb_fieldOff_80_0 : fieldOff Tryd.prog 80 0 = some 0 := by kernel_rfl
theorem tb_fieldOff_80_1 : fieldOff Tryd.prog 80 1 = some 1 := by kernel_rfl
theorem tb_fieldOff_82_0 : fieldOff Tryd.prog 82 0 = some 0 := by kernel_rfl
theorem tb_fieldOff_82_1 : fieldOff Tryd.prog 82 1 = some 1 := by kernel_rfl
theorem tb_ifaceT_143 : ifaceT Tryd.prog 143 = some true := by kernel_rfl
theorem tb_ifaceT_146 : ifaceT Tryd.prog 146 = some true := by kernel_rfl
theorem tb_ifaceT_147 : ifaceT Tryd.prog 147 = some true := by kernel_rfl
theorem tb_ifaceT_181 : ifaceT Tryd.prog 181 = some false := by kernel_rfl
theorem tb_ifaceT_28 : ifaceT Tryd.prog 28 = some false := by kernel_rfl
theorem tb_ifaceT_80 : ifaceT Tryd.prog 80 = some false := by kernel_rfl
theorem tb_ifaceT_84 : ifaceT Tryd.prog 84 = some false := by kernel_rfl
theorem tb_ifaceT_85 : ifaceT Tryd.prog 85 = some false := by kernel_rfl
theorem tb_ifaceT_86 : ifaceT Tryd.prog 86 = some false := by kernel_rfl
theorem tb_ifaceT_9 : ifaceT Tryd.prog 9 = some false := by kernel_rfl
theorem tb_indexT_106 : indexT Tryd.prog 106 = some (.sl 5) := by kernel_rfl
theorem tb_indexT_148 : indexT Tryd.prog 148 = some (.sl 1) := by kernel_rfl
theorem tb_indexT_22 : indexT Tryd.prog 22 = some (.sl 1) := by kernel_rfl
theorem tb_indexT_23 : indexT Tryd.prog 23 = some (.sl 1) := by kernel_rfl
theorem tb_indexT_38 : indexT Tryd.prog 38 = some (.sl 2) := by kernel_rfl
theorem tb_indexT_46 : indexT Tryd.prog 46 = some (.sl 3) := by kernel_rfl
theorem tb_indexT_9 : indexT Tryd.prog 9 = some (.str) := by kernel_rfl
theorem tb_isAggT_109 : isAggT Tryd.prog 109 = some true := by kernel_rfl
theorem tb_isAggT_115 : isAggT Tryd.prog 115 = some true := by kernel_rfl
theorem tb_isAggT_118 : isAggT Tryd.prog 118 = some false := by kernel_rfl
theorem tb_isAggT_2 : isAggT Tryd.prog 2 = some false := by kernel_rfl
theorem tb_isAggT_23 : isAggT Tryd.prog 23 = some false := by kernel_rfl
theorem tb_isAggT_25 : isAggT Tryd.prog 25 = some false := by kernel_rfl
theorem tb_isAggT_28 : isAggT Tryd.prog 28 = some false := by kernel_rfl
theorem tb_isAggT_3 : isAggT Tryd.prog 3 = some false := by kernel_rfl
theorem tb_isAggT_30 : isAggT Tryd.prog 30 = some true := by kernel_rfl
theorem tb_isAggT_39 : isAggT Tryd.prog 39 = some false := by kernel_rfl
theorem tb_isAggT_4 : isAggT Tryd.prog 4 = some false := by kernel_rfl
theorem tb_isAggT_41 : isAggT Tryd.prog 41 = some true := by kernel_rfl
theorem tb_isAggT_48 : isAggT Tryd.prog 48 = some true := by kernel_rfl
theorem tb_isAggT_5 : isAggT Tryd.prog 5 = some false := by kernel_rfl
theorem tb_lenT_106 : lenT Tryd.prog 106 = .sl := by kernel_rfl
theorem tb_lenT_148 : lenT Tryd.prog 148 = .sl := by kernel_rfl
theorem tb_lenT_22 : lenT Tryd.prog 22 = .sl := by kernel_rfl
theorem tb_lenT_23 : lenT Tryd.prog 23 = .sl := by kernel_rfl
theorem tb_lenT_38 : lenT Tryd.prog 38 = .sl := by kernel_rfl
theorem tb_lenT_46 : lenT Tryd.prog 46 = .sl := by kernel_rfl
theorem tb_res_10 : Tryd.f10.results.toList = [.tmp 0] := by kernel_rfl
theorem tb_res_11 : Tryd.f11.results.toList = [.tmp 4] := by kernel_rfl
theorem tb_res_110 : Tryd.f110.results.toList = [.tmp 2] := by kernel_rfl
theorem tb_res_112 : Tryd.f112.results.toList = [.tmp 2] := by kernel_rfl
theorem tb_res_12 : Tryd.f12.results.toList = [.tmp 4] := by kernel_rfl
theorem tb_res_13 : Tryd.f13.results.toList = [.tmp 4] := by kernel_rfl
theorem tb_res_134 : Tryd.f134.results.toList = [] := by kernel_rfl
theorem tb_res_14 : Tryd.f14.results.toList = [.tmp 2, .tmp 3] := by kernel_rfl
theorem tb_res_15 : Tryd.f15.results.toList = [.tmp 2, .cell 3 30] := by kernel_rfl
theorem tb_res_16 : Tryd.f16.results.toList = [.tmp 4] := by kernel_rfl
theorem tb_res_17 : Tryd.f17.results.toList = [.tmp 2, .tmp 3] := by kernel_rfl
theorem tb_res_18 : Tryd.f18.results.toList = [.tmp 2, .cell 3 30] := by kernel_rfl
theorem tb_res_19 : Tryd.f19.results.toList = [.tmp 4] := by kernel_rfl
theorem tb_res_2 : Tryd.f2.results.toList = [] := by kernel_rfl
theorem tb_res_20 : Tryd.f20.results.toList = [.tmp 2] := by kernel_rfl
theorem tb_res_21 : Tryd.f21.results.toList = [.tmp 2, .tmp 3] := by kernel_rfl
theorem tb_res_22 : Tryd.f22.results.toList = [.tmp 2, .cell 3 30] := by kernel_rfl
theorem tb_res_23 : Tryd.f23.results.toList = [.tmp 4] := by kernel_rfl
theorem tb_res_24 : Tryd.f24.results.toList = [.tmp 2, .tmp 3] := by kernel_rfl
theorem tb_res_25 : Tryd.f25.results.toList = [.tmp 2, .cell 3 30] := by kernel_rfl
theorem tb_res_26 : Tryd.f26.results.toList = [.tmp 2] := by kernel_rfl
theorem tb_res_27 : Tryd.f27.results.toList = [] := by kernel_rfl
theorem tb_res_28 : Tryd.f28.results.toList = [] := by kernel_rfl
theorem tb_res_29 : Tryd.f29.results.toList = [] := by kernel_rfl
theorem tb_res_3 : Tryd.f3.results.toList = [.tmp 2] := by kernel_rfl
theorem tb_res_30 : Tryd.f30.results.toList = [.tmp 2] := by kernel_rfl
theorem tb_res_31 : Tryd.f31.results.toList = [.cell 2 30] := by kernel_rfl
theorem tb_res_32 : Tryd.f32.results.toList = [.tmp 2] := by kernel_rfl
theorem tb_res_33 : Tryd.f33.results.toList = [] := by kernel_rfl
theorem tb_res_34 : Tryd.f34.results.toList = [] := by kernel_rfl
theorem tb_res_35 : Tryd.f35.results.toList = [.tmp 2, .tmp 3, .tmp 4, .tmp 5] := by kernel_rfl
theorem tb_res_36 : Tryd.f36.results.toList = [] := by kernel_rfl
theorem tb_res_37 : Tryd.f37.results.toList = [.tmp 4] := by kernel_rfl
theorem tb_res_38 : Tryd.f38.results.toList = [.tmp 2] := by kernel_rfl
theorem tb_res_39 : Tryd.f39.results.toList = [] := by kernel_rfl
theorem tb_res_4 : Tryd.f4.results.toList = [.tmp 2] := by kernel_rfl
theorem tb_res_40 : Tryd.f40.results.toList = [.tmp 2] := by kernel_rfl
theorem tb_res_41 : Tryd.f41.results.toList = [.tmp 2] := by kernel_rfl
theorem tb_res_42 : Tryd.f42.results.toList = [.tmp 2] := by kernel_rfl
theorem tb_res_43 : Tryd.f43.results.toList = [.tmp 2] := by kernel_rfl
theorem tb_res_44 : Tryd.f44.results.toList = [.tmp 2] := by kernel_rfl
theorem tb_res_45 : Tryd.f45.results.toList = [] := by kernel_rfl
theorem tb_res_46 : Tryd.f46.results.toList = [] := by kernel_rfl
theorem tb_res_47 : Tryd.f47.results.toList = [.tmp 2] := by kernel_rfl
theorem tb_res_48 : Tryd.f48.results.toList = [.tmp 4] := by kernel_rfl
theorem tb_res_49 : Tryd.f49.results.toList = [.tmp 2] := by kernel_rfl
theorem tb_res_5 : Tryd.f5.results.toList = [.tmp 2] := by kernel_rfl
theorem tb_res_50 : Tryd.f50.results.toList = [.cell 6 41] := by kernel_rfl
theorem tb_res_51 : Tryd.f51.results.toList = [.tmp 2] := by kernel_rfl
theorem tb_res_52 : Tryd.f52.results.toList = [.tmp 4] := by kernel_rfl
theorem tb_res_53 : Tryd.f53.results.toList = [.tmp 2] := by kernel_rfl
theorem tb_res_54 : Tryd.f54.results.toList = [.tmp 4] := by kernel_rfl
theorem tb_res_55 : Tryd.f55.results.toList = [.cell 2 30] := by kernel_rfl
theorem tb_res_56 : Tryd.f56.results.toList = [.tmp 4] := by kernel_rfl
theorem tb_res_57 : Tryd.f57.results.toList = [.tmp 2] := by kernel_rfl
theorem tb_res_58 : Tryd.f58.results.toList = [.cell 2 30] := by kernel_rfl
theorem tb_res_59 : Tryd.f59.results.toList = [.tmp 4] := by kernel_rfl
theorem tb_res_6 : Tryd.f6.results.toList = [.tmp 2] := by kernel_rfl
theorem tb_res_60 : Tryd.f60.results.toList = [.tmp 2] := by kernel_rfl
theorem tb_res_61 : Tryd.f61.results.toList = [.tmp 2] := by kernel_rfl
theorem tb_res_62 : Tryd.f62.results.toList = [.tmp 2] := by kernel_rfl
theorem tb_res_63 : Tryd.f63.results.toList = [.tmp 2] := by kernel_rfl
theorem tb_res_64 : Tryd.f64.results.toList = [] := by kernel_rfl
theorem tb_res_65 : Tryd.f65.results.toList = [.tmp 0] := by kernel_rfl
theorem tb_res_66 : Tryd.f66.results.toList = [.tmp 2] := by kernel_rfl
theorem tb_res_67 : Tryd.f67.results.toList = [] := by kernel_rfl
theorem tb_res_68 : Tryd.f68.results.toList = [.tmp 2] := by kernel_rfl
theorem tb_res_7 : Tryd.f7.results.toList = [.tmp 2] := by kernel_rfl
theorem tb_res_72 : Tryd.f72.results.toList = [.tmp 8] := by kernel_rfl
theorem tb_res_73 : Tryd.f73.results.toList = [.tmp 6] := by kernel_rfl
theorem tb_res_74 : Tryd.f74.results.toList = [.tmp 4] := by kernel_rfl
theorem tb_res_75 : Tryd.f75.results.toList = [.tmp 2] := by kernel_rfl
theorem tb_res_76 : Tryd.f76.results.toList = [.tmp 4] := by kernel_rfl
theorem tb_res_77 : Tryd.f77.results.toList = [.tmp 2] := by kernel_rfl
theorem tb_res_78 : Tryd.f78.results.toList = [.tmp 6, .tmp 7] := by kernel_rfl
theorem tb_res_79 : Tryd.f79.results.toList = [] := by kernel_rfl
theorem tb_res_8 : Tryd.f8.results.toList = [.tmp 2, .tmp 3] := by kernel_rfl
theorem tb_res_80 : Tryd.f80.results.toList = [.cell 4 30] := by kernel_rfl
theorem tb_res_81 : Tryd.f81.results.toList = [.tmp 2] := by kernel_rfl
theorem tb_res_82 : Tryd.f82.results.toList = [.tmp 2] := by kernel_rfl
theorem tb_res_86 : Tryd.f86.results.toList = [.tmp 2] := by kernel_rfl
theorem tb_res_87 : Tryd.f87.results.toList = [] := by kernel_rfl
theorem tb_res_88 : Tryd.f88.results.toList = [.tmp 2] := by kernel_rfl
theorem tb_res_89 : Tryd.f89.results.toList = [.tmp 4] := by kernel_rfl
theorem tb_res_9 : Tryd.f9.results.toList = [.tmp 2, .cell 3 30] := by kernel_rfl
theorem tb_zeroT_109 : zeroT Tryd.prog 109 = some (.agg #[.int .i64 0, .int .i64 0, .int .i64 0, .int .i64 0, .int .i64 0]) := by kernel_rfl
theorem tb_zeroT_115 : zeroT Tryd.prog 115 = some (.agg #[.pointer none, .pointer none, .int .u64 0]) := by kernel_rfl
theorem tb_zeroT_127 : zeroT Tryd.prog 127 = some (.agg #[.slice none 0 0, .int .i64 0, .int .i64 0, .nilIface]) := by kernel_rfl
theorem tb_zeroT_132 : zeroT Tryd.prog 132 = some (.agg #[.slice none 0 0, .int .i64 0, .int .i64 0, .int .i64 0, .int .i64 0, .int .i64 0, .bool false, .bool false]) := by kernel_rfl
theorem tb_zeroT_28 : zeroT Tryd.prog 28 = some (.int .i64 0) := by kernel_rfl
theorem tb_zeroT_30 : zeroT Tryd.prog 30 = some (.agg #[.int .i64 0, .int .i64 0, .int .i64 0, .bool false, .bool false]) := by kernel_rfl
theorem tb_zeroT_41 : zeroT Tryd.prog 41 = some (.agg #[.int .u8 0, .int .i64 0]) := by kernel_rfl
theorem tb_zeroT_48 : zeroT Tryd.prog 48 = some (.agg #[.int .i64 0, .int .u8 0, .int .i64 0]) := by kernel_rfl
theorem tb_zeroT_65 : zeroT Tryd.prog 65 = some (.agg #[.slice none 0 0, .int .i64 0]) := by kernel_rfl
theorem tb_zeroT_75 : zeroT Tryd.prog 75 = some (.agg #[.slice none 0 0, .int .i64 0]) := by kernel_rfl
theorem tb_zeroT_80 : zeroT Tryd.prog 80 = some (.agg #[.int .i64 0, .nilIface]) := by kernel_rfl
theorem tb_zeroT_82 : zeroT Tryd.prog 82 = some (.agg #[.int .i64 0, .nilIface]) := by kernel_rfl
theorem eqAgg_of {P : Program} {t : TypeId} {x y : Value} {r : Option Bool} (h : P.eqGuardType P.depth t = false) (hd : eqDeep P 8 t x y = r) : eqAgg P t x y = r := by unfold eqAgg; rw [h]; exact hd
theorem eqDeep_struct {P : Program} {n : Nat} {t : TypeId} {fs : Array Field} {xs ys : Array Value} {r : Option Bool} (hu : P.underlying t = some (.struct fs)) (hh : P.stoodInHeld t = false) (hf : eqFs P (eqDeep P n) xs ys fs.toList = r) : eqDeep P (n + 1) t (.agg xs) (.agg ys) = r := by unfold eqDeep; rw [hu]; show (if P.stoodInHeld t = true then _ else _) = _; rw [if_neg (by rw [hh]; decide)]; exact hf
theorem eqDeep_int {P : Program} {n : Nat} {t : TypeId} {k k' : IntKind} {a b : Int} (hu : P.underlying t = some (.int k')) : eqDeep P (n + 1) t (.int k a) (.int k b) = some (decide (a = b)) := by unfold eqDeep; rw [hu]; exact if_pos rfl
theorem eqDeep_string {P : Program} {n : Nat} {t : TypeId} {a b : ByteArray} (hu : P.underlying t = some .string) : eqDeep P (n + 1) t (.string a) (.string b) = some (decide (a.toList = b.toList)) := by unfold eqDeep; rw [hu]; show some (a.toList == b.toList) = _; by_cases h : a.toList = b.toList <;> simp [h]
theorem eqFs_nil {P : Program} {r : TypeId → Value → Value → Option Bool} {xs ys : Array Value} : eqFs P r xs ys [] = some (decide True) := rfl
theorem eqFs_cons {P : Program} {r : TypeId → Value → Value → Option Bool} {xs ys : Array Value} {f : Field} {fs : List Field} {a b : Value} {c d : Prop} [Decidable c] [Decidable d] (hn : f.name ≠ "_") (ha : partP P f.type xs f.offset = some a) (hb : partP P f.type ys f.offset = some b)
    (hr : r f.type a b = some (decide c)) (ht : eqFs P r xs ys fs = some (decide d)) : eqFs P r xs ys (f :: fs) = some (decide (c ∧ d)) := by
  unfold eqFs
  rw [if_neg hn, ha, hb]
  show (match r f.type a b with | some true => _ | some false => _ | none => _) = _
  rw [hr]
  by_cases h : c
  · rw [decide_eq_true h, ht]; simp [h]
  · rw [decide_eq_false h]; simp [h]
theorem eqPart_leaf {P : Program} {t : TypeId} {cs : Array Value} {o n : Nat} {v : Value} (h : isAggT P t = some false) (hc : cellsT P t = some n) (hv : cs[o]? = some v) : partP P t cs o = some v := by unfold partP; rw [h, hc]; exact hv
theorem eqPart_agg {P : Program} {t : TypeId} {cs : Array Value} {o n : Nat} {x : Array Value} (h : isAggT P t = some true) (hc : cellsT P t = some n) (hv : cs.extract o (o + n) = x) : partP P t cs o = some (.agg x) := by unfold partP; rw [h, hc, ← hv]
theorem tb_eqU_41 : Tryd.prog.underlying 41 = some (.struct #[⟨"Kind", 39, 0, false, "", "", 0⟩, ⟨"N", 2, 1, false, "", "", 8⟩]) := by kernel_rfl
theorem tb_eqH_41 : Tryd.prog.stoodInHeld 41 = false := by kernel_rfl
theorem tb_eqA_39 : isAggT Tryd.prog 39 = some false := by kernel_rfl
theorem tb_eqC_39 : cellsT Tryd.prog 39 = some 1 := by kernel_rfl
theorem tb_eqU_39 : Tryd.prog.underlying 39 = some (.int .u8) := by kernel_rfl
theorem tb_eqA_2 : isAggT Tryd.prog 2 = some false := by kernel_rfl
theorem tb_eqC_2 : cellsT Tryd.prog 2 = some 1 := by kernel_rfl
theorem tb_eqU_2 : Tryd.prog.underlying 2 = some (.int .i64) := by kernel_rfl
theorem tb_eqG_41 : Tryd.prog.eqGuardType Tryd.prog.depth 41 = false := by kernel_rfl
theorem tb_eqU_48 : Tryd.prog.underlying 48 = some (.struct #[⟨"Time", 2, 0, false, "", "", 0⟩, ⟨"Value", 41, 1, false, "", "", 8⟩]) := by kernel_rfl
theorem tb_eqH_48 : Tryd.prog.stoodInHeld 48 = false := by kernel_rfl
theorem tb_eqA_41 : isAggT Tryd.prog 41 = some true := by kernel_rfl
theorem tb_eqC_41 : cellsT Tryd.prog 41 = some 2 := by kernel_rfl
theorem tb_eqG_48 : Tryd.prog.eqGuardType Tryd.prog.depth 48 = false := by kernel_rfl
theorem tb_eqS_41 (a0 b0 : Int) (a1 b1 : Int) : (eqAgg Tryd.prog 41 (.agg #[.int .u8 a0, .int .i64 a1]) (.agg #[.int .u8 b0, .int .i64 b1])) = some (decide (a0 = b0 ∧ a1 = b1)) := (eqAgg_of tb_eqG_41 (eqDeep_struct tb_eqU_41 tb_eqH_41 (eqFs_cons (by decide) (eqPart_leaf tb_eqA_39 tb_eqC_39 rfl) (eqPart_leaf tb_eqA_39 tb_eqC_39 rfl) (eqDeep_int tb_eqU_39) (eqFs_cons (by decide) (eqPart_leaf tb_eqA_2 tb_eqC_2 rfl) (eqPart_leaf tb_eqA_2 tb_eqC_2 rfl) (eqDeep_int tb_eqU_2) eqFs_nil)))).trans (by simp)
theorem tb_eqS_48 (a0 b0 : Int) (a1 b1 : Int) (a2 b2 : Int) : (eqAgg Tryd.prog 48 (.agg #[.int .i64 a0, .int .u8 a1, .int .i64 a2]) (.agg #[.int .i64 b0, .int .u8 b1, .int .i64 b2])) = some (decide (a0 = b0 ∧ a1 = b1 ∧ a2 = b2)) := (eqAgg_of tb_eqG_48 (eqDeep_struct tb_eqU_48 tb_eqH_48 (eqFs_cons (by decide) (eqPart_leaf tb_eqA_2 tb_eqC_2 rfl) (eqPart_leaf tb_eqA_2 tb_eqC_2 rfl) (eqDeep_int tb_eqU_2) (eqFs_cons (by decide) (eqPart_agg tb_eqA_41 tb_eqC_41 rfl) (eqPart_agg tb_eqA_41 tb_eqC_41 rfl) (eqDeep_struct tb_eqU_41 tb_eqH_41 (eqFs_cons (by decide) (eqPart_leaf tb_eqA_39 tb_eqC_39 rfl) (eqPart_leaf tb_eqA_39 tb_eqC_39 rfl) (eqDeep_int tb_eqU_39) (eqFs_cons (by decide) (eqPart_leaf tb_eqA_2 tb_eqC_2 rfl) (eqPart_leaf tb_eqA_2 tb_eqC_2 rfl) (eqDeep_int tb_eqU_2) eqFs_nil))) eqFs_nil)))).trans (by simp)
/- all facts that one function's walk wants. -/
abbrev tf2 := (And.intro @tb_res_2 @tb_callable_1)
abbrev tf3 := (And.intro (And.intro (And.intro (And.intro @tb_res_3 @tb_bsT_22_0) (And.intro @tb_bsT_22_1 @tb_lenT_22)) (And.intro (And.intro @tb_indexT_22 @tb_callable_8) (And.intro @tb_callable_9 @tb_zeroT_30))) (And.intro (And.intro (And.intro @tb_isAggT_30 @tb_cellsT_30) (And.intro @tb_callable_10 @tb_callable_11)) (And.intro (And.intro @tb_callable_12 @tb_callable_13) (And.intro @tb_isAggT_2 @tb_cellsT_2))))
abbrev tf4 := (And.intro (And.intro (And.intro (And.intro @tb_res_4 @tb_bsT_38_0) (And.intro @tb_buildT_41 @tb_bsT_38_1)) (And.intro (And.intro @tb_lenT_38 @tb_indexT_38) (And.intro @tb_callable_14 (And.intro @tb_callable_15 @tb_zeroT_30)))) (And.intro (And.intro (And.intro @tb_isAggT_30 @tb_cellsT_30) (And.intro @tb_callable_10 (And.intro @tb_callable_11 @tb_callable_12))) (And.intro (And.intro @tb_callable_16 @tb_isAggT_41) (And.intro @tb_cellsT_41 (And.intro @tb_eqT_41 @tb_eqS_41)))))
abbrev tf5 := (And.intro (And.intro (And.intro (And.intro @tb_res_5 @tb_bsT_46_0) (And.intro @tb_buildT_48 @tb_bsT_46_1)) (And.intro (And.intro @tb_lenT_46 @tb_indexT_46) (And.intro @tb_callable_17 (And.intro @tb_callable_18 @tb_zeroT_30)))) (And.intro (And.intro (And.intro @tb_isAggT_30 @tb_cellsT_30) (And.intro @tb_callable_10 @tb_callable_11)) (And.intro (And.intro @tb_callable_12 @tb_callable_19) (And.intro @tb_fieldOff_48_0 (And.intro @tb_isAggT_2 @tb_cellsT_2)))))
abbrev tf6 := (And.intro (And.intro (And.intro @tb_res_6 @tb_callable_20) (And.intro @tb_callable_21 (And.intro @tb_callable_22 @tb_zeroT_30))) (And.intro (And.intro @tb_isAggT_30 (And.intro @tb_cellsT_30 @tb_callable_10)) (And.intro @tb_callable_11 (And.intro @tb_callable_16 @tb_callable_23))))
abbrev tf7 := (And.intro (And.intro (And.intro @tb_res_7 @tb_callable_20) (And.intro @tb_callable_24 (And.intro @tb_callable_25 @tb_zeroT_30))) (And.intro (And.intro @tb_isAggT_30 (And.intro @tb_cellsT_30 @tb_callable_10)) (And.intro @tb_callable_11 (And.intro @tb_callable_13 @tb_callable_23))))
abbrev tf8 := (And.intro (And.intro (And.intro @tb_res_8 (And.intro @tb_lenT_22 @tb_callable_26)) (And.intro (And.intro @tb_zeroT_65 @tb_convT_3_67) (And.intro @tb_callable_27 @tb_indexT_22))) (And.intro (And.intro @tb_isAggT_2 (And.intro @tb_cellsT_2 @tb_callable_28)) (And.intro (And.intro @tb_convT_2_67 @tb_convT_67_2) (And.intro @tb_callable_29 @tb_callable_30))))
abbrev tf9 := (And.intro (And.intro (And.intro (And.intro @tb_res_9 @tb_isAggT_30) (And.intro @tb_cellsT_30 (And.intro @tb_zeroT_30 @tb_lenT_22))) (And.intro (And.intro @tb_callable_31 (And.intro @tb_callable_32 @tb_buildT_75)) (And.intro @tb_zeroT_75 (And.intro @tb_convT_3_67 @tb_callable_33)))) (And.intro (And.intro (And.intro @tb_indexT_22 (And.intro @tb_isAggT_2 @tb_cellsT_2)) (And.intro @tb_callable_34 (And.intro @tb_convT_2_67 @tb_convT_67_2))) (And.intro (And.intro @tb_callable_35 (And.intro @tb_callable_36 @tb_fieldOff_75_0)) (And.intro @tb_isAggT_23 (And.intro @tb_cellsT_23 @tb_buildT_30)))))
abbrev tf10 := (And.intro (And.intro (And.intro @tb_res_10 @tb_bsT_22_3) (And.intro @tb_callable_8 (And.intro @tb_buildT_41 @tb_bsT_38_1))) (And.intro (And.intro @tb_callable_14 @tb_eqT_25) (And.intro @tb_bsT_23_5 (And.intro @tb_callable_12 @tb_bsT_23_3))))
abbrev tf11 := (And.intro (And.intro (And.intro (And.intro @tb_res_11 (And.intro @tb_zeroT_30 @tb_fieldOff_30_0)) (And.intro @tb_isAggT_28 (And.intro @tb_cellsT_28 @tb_eqT_25))) (And.intro (And.intro @tb_zeroT_28 (And.intro @tb_zeroT_80 @tb_zeroT_82)) (And.intro @tb_ifaceT_84 (And.intro @tb_callable_37 @tb_ifaceT_85)))) (And.intro (And.intro (And.intro @tb_fieldOff_30_3 (And.intro @tb_isAggT_4 @tb_cellsT_4)) (And.intro @tb_eqT_4 (And.intro @tb_ifaceT_86 @tb_fieldOff_30_4))) (And.intro (And.intro @tb_fieldOff_80_0 (And.intro @tb_isAggT_3 @tb_cellsT_3)) (And.intro @tb_fieldOff_30_1 (And.intro @tb_fieldOff_82_0 @tb_fieldOff_30_2)))))
abbrev tf12 := (And.intro (And.intro @tb_res_12 @tb_lenT_23) (And.intro @tb_indexT_23 (And.intro @tb_isAggT_5 @tb_cellsT_5)))
abbrev tf13 := (And.intro (And.intro @tb_res_13 @tb_lenT_22) (And.intro @tb_indexT_22 (And.intro @tb_isAggT_2 @tb_cellsT_2)))
abbrev tf14 := (And.intro (And.intro (And.intro (And.intro @tb_res_14 @tb_lenT_38) (And.intro @tb_callable_26 (And.intro @tb_zeroT_65 @tb_convT_3_67))) (And.intro (And.intro @tb_callable_27 (And.intro @tb_zeroT_41 @tb_indexT_38)) (And.intro @tb_isAggT_41 (And.intro @tb_cellsT_41 @tb_callable_38)))) (And.intro (And.intro (And.intro @tb_eqT_41 (And.intro @tb_eqS_41 @tb_callable_39)) (And.intro @tb_fieldOff_41_0 (And.intro @tb_isAggT_39 @tb_cellsT_39))) (And.intro (And.intro @tb_fieldOff_41_1 (And.intro @tb_isAggT_2 @tb_cellsT_2)) (And.intro @tb_callable_40 (And.intro @tb_callable_41 @tb_callable_30)))))
abbrev tf15 := (And.intro (And.intro (And.intro (And.intro (And.intro @tb_res_15 @tb_isAggT_30) (And.intro @tb_cellsT_30 @tb_zeroT_30)) (And.intro (And.intro @tb_lenT_38 @tb_callable_31) (And.intro @tb_buildT_75 @tb_zeroT_75))) (And.intro (And.intro (And.intro @tb_convT_3_67 @tb_callable_33) (And.intro @tb_buildT_41 @tb_zeroT_41)) (And.intro (And.intro @tb_isAggT_41 @tb_cellsT_41) (And.intro @tb_indexT_38 (And.intro @tb_callable_42 @tb_eqT_41))))) (And.intro (And.intro (And.intro (And.intro @tb_eqS_41 @tb_callable_36) (And.intro @tb_fieldOff_41_0 @tb_isAggT_39)) (And.intro (And.intro @tb_cellsT_39 @tb_fieldOff_41_1) (And.intro @tb_isAggT_2 @tb_cellsT_2))) (And.intro (And.intro (And.intro @tb_convT_2_67 @tb_convT_67_2) (And.intro @tb_callable_43 @tb_callable_44)) (And.intro (And.intro @tb_convT_39_67 @tb_fieldOff_75_0) (And.intro @tb_isAggT_23 (And.intro @tb_cellsT_23 @tb_buildT_30))))))
abbrev tf16 := (And.intro (And.intro @tb_res_16 (And.intro @tb_lenT_38 @tb_indexT_38)) (And.intro (And.intro @tb_isAggT_41 @tb_cellsT_41) (And.intro @tb_eqT_41 @tb_eqS_41)))
abbrev tf17 := (And.intro (And.intro (And.intro (And.intro @tb_res_17 @tb_lenT_46) (And.intro @tb_indexT_46 (And.intro @tb_isAggT_48 @tb_cellsT_48))) (And.intro (And.intro @tb_zeroT_48 @tb_fieldOff_48_0) (And.intro @tb_isAggT_2 (And.intro @tb_cellsT_2 @tb_bsT_22_1)))) (And.intro (And.intro (And.intro @tb_fieldOff_48_1 @tb_isAggT_41) (And.intro @tb_cellsT_41 (And.intro @tb_bsT_38_1 @tb_callable_8))) (And.intro (And.intro @tb_eqT_25 @tb_callable_14) (And.intro @tb_zeroT_65 (And.intro @tb_callable_45 @tb_callable_30)))))
abbrev tf18 := (And.intro (And.intro (And.intro (And.intro @tb_res_18 (And.intro @tb_isAggT_30 @tb_cellsT_30)) (And.intro @tb_zeroT_30 (And.intro @tb_lenT_46 @tb_indexT_46))) (And.intro (And.intro @tb_fieldOff_48_0 (And.intro @tb_isAggT_2 @tb_cellsT_2)) (And.intro (And.intro @tb_bsT_22_1 @tb_fieldOff_48_1) (And.intro @tb_isAggT_41 @tb_cellsT_41)))) (And.intro (And.intro (And.intro @tb_bsT_38_1 (And.intro @tb_callable_9 @tb_fieldOff_30_0)) (And.intro @tb_isAggT_28 (And.intro @tb_cellsT_28 @tb_callable_15))) (And.intro (And.intro @tb_buildT_75 (And.intro @tb_zeroT_75 @tb_callable_46)) (And.intro (And.intro @tb_fieldOff_75_0 @tb_isAggT_23) (And.intro @tb_cellsT_23 @tb_buildT_30)))))
abbrev tf19 := (And.intro (And.intro @tb_res_19 (And.intro @tb_lenT_46 @tb_indexT_46)) (And.intro (And.intro @tb_isAggT_48 @tb_cellsT_48) (And.intro @tb_eqT_48 @tb_eqS_48)))
abbrev tf20 := (And.intro (And.intro @tb_res_20 (And.intro @tb_lenT_23 @tb_indexT_23)) (And.intro @tb_isAggT_5 (And.intro @tb_cellsT_5 @tb_convT_3_5)))
abbrev tf21 := (And.intro (And.intro (And.intro (And.intro @tb_res_21 @tb_callable_47) (And.intro @tb_callable_48 (And.intro @tb_convT_67_3 @tb_zeroT_41))) (And.intro (And.intro @tb_lenT_38 (And.intro @tb_callable_49 @tb_eqT_25)) (And.intro @tb_isAggT_41 (And.intro @tb_cellsT_41 @tb_callable_50)))) (And.intro (And.intro (And.intro @tb_fieldOff_41_0 @tb_isAggT_39) (And.intro @tb_cellsT_39 (And.intro @tb_fieldOff_41_1 @tb_isAggT_2))) (And.intro (And.intro @tb_cellsT_2 (And.intro @tb_bsT_38_1 @tb_callable_51)) (And.intro @tb_callable_14 (And.intro @tb_callable_52 @tb_callable_26)))))
abbrev tf22 := (And.intro (And.intro (And.intro (And.intro @tb_res_22 (And.intro @tb_isAggT_30 @tb_cellsT_30)) (And.intro @tb_zeroT_30 (And.intro @tb_callable_53 @tb_callable_54))) (And.intro (And.intro @tb_convT_67_3 (And.intro @tb_buildT_41 @tb_zeroT_41)) (And.intro (And.intro @tb_isAggT_41 @tb_cellsT_41) (And.intro @tb_callable_55 @tb_fieldAt_30_0)))) (And.intro (And.intro (And.intro @tb_callable_56 (And.intro @tb_convT_67_39 @tb_convT_2_67)) (And.intro (And.intro @tb_callable_57 @tb_convT_67_2) (And.intro @tb_bsT_38_1 @tb_callable_58))) (And.intro (And.intro @tb_fieldOff_30_0 (And.intro @tb_isAggT_28 @tb_cellsT_28)) (And.intro (And.intro @tb_callable_15 @tb_callable_59) (And.intro @tb_callable_31 @tb_buildT_30)))))
abbrev tf23 := (And.intro (And.intro @tb_res_23 (And.intro @tb_callable_12 @tb_lenT_23)) (And.intro (And.intro @tb_indexT_23 @tb_isAggT_5) (And.intro @tb_cellsT_5 @tb_convT_3_5)))
abbrev tf24 := (And.intro (And.intro (And.intro (And.intro @tb_res_24 @tb_callable_47) (And.intro @tb_callable_48 @tb_convT_67_3)) (And.intro (And.intro @tb_callable_49 @tb_eqT_25) (And.intro @tb_callable_60 (And.intro @tb_bsT_22_1 @tb_callable_61)))) (And.intro (And.intro (And.intro @tb_convT_2_67 @tb_indexT_22) (And.intro @tb_isAggT_2 @tb_cellsT_2)) (And.intro (And.intro @tb_convT_67_2 @tb_callable_51) (And.intro @tb_callable_8 (And.intro @tb_callable_52 @tb_callable_26)))))
abbrev tf25 := (And.intro (And.intro (And.intro (And.intro @tb_res_25 (And.intro @tb_isAggT_30 @tb_cellsT_30)) (And.intro @tb_zeroT_30 (And.intro @tb_callable_53 @tb_callable_54))) (And.intro (And.intro @tb_convT_67_3 (And.intro @tb_callable_55 @tb_fieldAt_30_0)) (And.intro @tb_callable_62 (And.intro @tb_bsT_22_1 @tb_callable_63)))) (And.intro (And.intro (And.intro @tb_indexT_22 (And.intro @tb_isAggT_2 @tb_cellsT_2)) (And.intro @tb_convT_2_67 (And.intro @tb_convT_67_2 @tb_callable_58))) (And.intro (And.intro @tb_fieldOff_30_0 (And.intro @tb_isAggT_28 @tb_cellsT_28)) (And.intro (And.intro @tb_callable_9 @tb_callable_59) (And.intro @tb_callable_31 @tb_buildT_30)))))
abbrev tf26 := (And.intro @tb_res_26 @tb_ifaceT_28)
abbrev tf27 := (And.intro (And.intro @tb_res_27 @tb_convT_67_5) (And.intro @tb_bsT_23_1 @tb_callable_64))
abbrev tf28 := (And.intro @tb_res_28 (And.intro @tb_convT_2_67 @tb_callable_27))
abbrev tf29 := (And.intro (And.intro (And.intro (And.intro @tb_res_29 @tb_callable_65) (And.intro @tb_lenT_106 @tb_indexT_106)) (And.intro (And.intro @tb_isAggT_109 @tb_cellsT_109) (And.intro @tb_zeroT_109 (And.intro @tb_fieldOff_109_2 @tb_isAggT_2)))) (And.intro (And.intro (And.intro @tb_cellsT_2 @tb_fieldOff_109_3) (And.intro @tb_fieldOff_109_0 (And.intro @tb_isAggT_3 @tb_cellsT_3))) (And.intro (And.intro @tb_convT_3_67 @tb_fieldOff_109_1) (And.intro @tb_callable_39 (And.intro @tb_convT_2_67 @tb_fieldOff_109_4)))))
abbrev tf30 := (And.intro (And.intro @tb_res_30 (And.intro @tb_eqT_70 @tb_fieldOff_65_0)) (And.intro @tb_isAggT_23 (And.intro @tb_cellsT_23 @tb_callable_66)))
abbrev tf31 := (And.intro (And.intro @tb_res_31 @tb_isAggT_30) (And.intro @tb_cellsT_30 (And.intro @tb_zeroT_30 @tb_buildT_30)))
abbrev tf32 := (And.intro (And.intro @tb_res_32 @tb_lenT_22) (And.intro @tb_indexT_22 (And.intro @tb_isAggT_2 @tb_cellsT_2)))
abbrev tf33 := (And.intro @tb_res_33 (And.intro @tb_convT_67_5 @tb_callable_67))
abbrev tf34 := (And.intro @tb_res_34 (And.intro @tb_callable_43 @tb_callable_33))
abbrev tf35 := @tb_res_35
abbrev tf36 := (And.intro (And.intro (And.intro @tb_res_36 (And.intro @tb_callable_68 @tb_fieldOff_75_1)) (And.intro @tb_isAggT_3 (And.intro @tb_cellsT_3 @tb_fieldOff_75_0))) (And.intro (And.intro @tb_isAggT_23 (And.intro @tb_cellsT_23 @tb_bsT_23_1)) (And.intro (And.intro @tb_lenT_23 @tb_indexT_23) (And.intro @tb_isAggT_5 @tb_cellsT_5))))
abbrev tf37 := (And.intro (And.intro (And.intro @tb_res_37 (And.intro @tb_eqT_25 @tb_eqT_20)) (And.intro @tb_ifaceT_9 (And.intro @tb_callable_69 @tb_zeroT_115))) (And.intro (And.intro @tb_isAggT_115 (And.intro @tb_cellsT_115 @tb_callable_70)) (And.intro (And.intro @tb_callable_71 @tb_isAggT_118) (And.intro @tb_cellsT_118 @tb_callable_72))))
abbrev tf38 := (And.intro (And.intro (And.intro @tb_res_38 @tb_zeroT_41) (And.intro @tb_fieldOff_41_0 @tb_isAggT_39)) (And.intro (And.intro @tb_cellsT_39 @tb_fieldOff_41_1) (And.intro @tb_isAggT_2 @tb_cellsT_2)))
abbrev tf39 := (And.intro (And.intro (And.intro @tb_res_39 (And.intro @tb_eqT_70 @tb_fieldOff_65_1)) (And.intro (And.intro @tb_isAggT_3 @tb_cellsT_3) (And.intro @tb_fieldOff_65_0 @tb_isAggT_23))) (And.intro (And.intro @tb_cellsT_23 (And.intro @tb_bsT_23_1 @tb_lenT_23)) (And.intro (And.intro @tb_indexT_23 @tb_isAggT_5) (And.intro @tb_cellsT_5 @tb_convT_67_5))))
abbrev tf40 := (And.intro @tb_res_40 @tb_convT_2_67)
abbrev tf41 := (And.intro (And.intro @tb_res_41 @tb_convT_67_5) (And.intro @tb_indexT_9 @tb_convT_5_3))
abbrev tf42 := (And.intro (And.intro (And.intro @tb_res_42 @tb_zeroT_41) (And.intro @tb_fieldOff_41_0 @tb_isAggT_39)) (And.intro (And.intro @tb_cellsT_39 @tb_fieldOff_41_1) (And.intro @tb_isAggT_2 @tb_cellsT_2)))
abbrev tf43 := (And.intro @tb_res_43 @tb_convT_2_67)
abbrev tf44 := @tb_res_44
abbrev tf45 := (And.intro (And.intro @tb_res_45 @tb_lenT_23) (And.intro @tb_convT_3_67 (And.intro @tb_callable_27 @tb_callable_64)))
abbrev tf46 := (And.intro (And.intro (And.intro @tb_res_46 @tb_lenT_23) (And.intro @tb_convT_3_67 @tb_callable_33)) (And.intro (And.intro @tb_indexT_23 @tb_isAggT_5) (And.intro @tb_cellsT_5 @tb_callable_67)))
abbrev tf47 := (And.intro (And.intro @tb_res_47 @tb_callable_66) (And.intro @tb_buildT_125 (And.intro @tb_buildT_127 @tb_zeroT_127)))
abbrev tf48 := (And.intro @tb_res_48 @tb_callable_73)
abbrev tf49 := (And.intro (And.intro @tb_res_49 (And.intro @tb_eqT_91 @tb_callable_26)) (And.intro @tb_fieldOff_127_1 (And.intro @tb_isAggT_25 @tb_cellsT_25)))
abbrev tf50 := (And.intro (And.intro (And.intro @tb_res_50 @tb_isAggT_41) (And.intro @tb_cellsT_41 @tb_zeroT_41)) (And.intro (And.intro @tb_callable_74 @tb_convT_67_3) (And.intro @tb_convT_67_2 @tb_buildT_41)))
abbrev tf51 := (And.intro (And.intro (And.intro @tb_res_51 @tb_callable_49) (And.intro @tb_eqT_25 (And.intro @tb_fieldOff_127_0 @tb_callable_75))) (And.intro (And.intro @tb_fieldOff_125_1 @tb_isAggT_3) (And.intro @tb_cellsT_3 (And.intro @tb_callable_76 @tb_callable_77))))
abbrev tf52 := (And.intro @tb_res_52 @tb_convT_23_9)
abbrev tf53 := (And.intro (And.intro @tb_res_53 (And.intro @tb_buildT_132 @tb_zeroT_132)) (And.intro @tb_fieldOff_132_0 (And.intro @tb_isAggT_23 @tb_cellsT_23)))
abbrev tf54 := (And.intro (And.intro @tb_res_54 (And.intro @tb_callable_78 @tb_fieldOff_132_1)) (And.intro @tb_isAggT_3 (And.intro @tb_cellsT_3 @tb_fieldOff_132_2)))
abbrev tf55 := (And.intro (And.intro @tb_res_55 @tb_isAggT_30) (And.intro @tb_cellsT_30 (And.intro @tb_zeroT_30 @tb_fieldOff_132_3)))
abbrev tf56 := (And.intro (And.intro (And.intro (And.intro @tb_res_56 @tb_callable_68) (And.intro @tb_fieldOff_132_0 (And.intro @tb_isAggT_23 @tb_cellsT_23))) (And.intro (And.intro @tb_lenT_23 @tb_fieldOff_132_1) (And.intro @tb_isAggT_3 (And.intro @tb_cellsT_3 @tb_fieldOff_132_2)))) (And.intro (And.intro (And.intro @tb_fieldOff_132_3 @tb_fieldOff_30_0) (And.intro @tb_isAggT_28 (And.intro @tb_cellsT_28 @tb_callable_80))) (And.intro (And.intro @tb_callable_79 @tb_indexT_23) (And.intro @tb_isAggT_5 (And.intro @tb_cellsT_5 @tb_convT_5_67)))))
abbrev tf57 := (And.intro @tb_res_57 @tb_convT_67_2)
abbrev tf58 := (And.intro (And.intro (And.intro @tb_res_58 (And.intro @tb_isAggT_30 @tb_cellsT_30)) (And.intro (And.intro @tb_zeroT_30 @tb_fieldOff_132_3) (And.intro @tb_fieldOff_30_0 @tb_isAggT_28))) (And.intro (And.intro (And.intro @tb_cellsT_28 @tb_callable_81) (And.intro @tb_fieldOff_132_1 @tb_isAggT_3)) (And.intro (And.intro @tb_cellsT_3 @tb_callable_80) (And.intro @tb_callable_82 @tb_buildT_30))))
abbrev tf59 := (And.intro @tb_res_59 @tb_convT_23_9)
abbrev tf60 := (And.intro @tb_res_60 (And.intro @tb_callable_73 @tb_convT_67_2))
abbrev tf61 := (And.intro (And.intro (And.intro @tb_res_61 (And.intro @tb_callable_65 @tb_lenT_106)) (And.intro (And.intro @tb_indexT_106 @tb_isAggT_109) (And.intro @tb_cellsT_109 @tb_zeroT_109))) (And.intro (And.intro (And.intro @tb_callable_74 @tb_fieldOff_109_4) (And.intro @tb_isAggT_3 @tb_cellsT_3)) (And.intro (And.intro @tb_convT_67_2 @tb_fieldOff_109_2) (And.intro @tb_isAggT_2 @tb_cellsT_2))))
abbrev tf62 := (And.intro @tb_res_62 (And.intro @tb_callable_54 @tb_callable_57))
abbrev tf63 := (And.intro @tb_res_63 @tb_callable_56)
abbrev tf64 := (And.intro (And.intro (And.intro @tb_res_64 @tb_eqT_70) (And.intro @tb_fieldOff_65_0 @tb_isAggT_23)) (And.intro (And.intro @tb_cellsT_23 @tb_fieldOff_65_1) (And.intro @tb_isAggT_3 @tb_cellsT_3)))
abbrev tf65 := (And.intro @tb_res_65 (And.intro @tb_buildT_109 @tb_bsT_106_4))
abbrev tf66 := (And.intro @tb_res_66 (And.intro @tb_eqT_23 @tb_bsT_23_0))
abbrev tf67 := (And.intro (And.intro (And.intro @tb_res_67 @tb_fieldOff_75_0) (And.intro @tb_isAggT_23 @tb_cellsT_23)) (And.intro (And.intro @tb_bsT_23_1 @tb_fieldOff_75_1) (And.intro @tb_isAggT_3 @tb_cellsT_3)))
abbrev tf68 := @tb_res_68
abbrev tf72 := (And.intro (And.intro (And.intro (And.intro @tb_res_72 @tb_zeroT_115) (And.intro @tb_callable_83 @tb_isAggT_115)) (And.intro (And.intro @tb_cellsT_115 @tb_callable_84) (And.intro @tb_callable_69 @tb_callable_85))) (And.intro (And.intro (And.intro @tb_ifaceT_143 @tb_ifaceT_146) (And.intro @tb_eqT_25 @tb_ifaceT_147)) (And.intro (And.intro @tb_lenT_148 @tb_indexT_148) (And.intro @tb_isAggT_25 (And.intro @tb_cellsT_25 @tb_callable_72)))))
abbrev tf73 := (And.intro (And.intro (And.intro (And.intro @tb_res_73 @tb_callable_86) (And.intro @tb_fieldOff_127_0 @tb_fieldOff_125_1)) (And.intro (And.intro @tb_isAggT_3 @tb_cellsT_3) (And.intro @tb_fieldOff_125_0 @tb_isAggT_23))) (And.intro (And.intro (And.intro @tb_cellsT_23 @tb_lenT_23) (And.intro @tb_callable_76 @tb_callable_87)) (And.intro (And.intro @tb_indexT_23 @tb_isAggT_5) (And.intro @tb_cellsT_5 (And.intro @tb_convT_5_67 @tb_fieldOff_125_2)))))
abbrev tf74 := (And.intro (And.intro (And.intro (And.intro @tb_res_74 @tb_eqT_91) (And.intro @tb_fieldOff_127_1 (And.intro @tb_isAggT_25 @tb_cellsT_25))) (And.intro (And.intro @tb_eqT_25 (And.intro @tb_fieldOff_127_0 @tb_fieldOff_125_2)) (And.intro @tb_isAggT_3 (And.intro @tb_cellsT_3 @tb_callable_77)))) (And.intro (And.intro (And.intro @tb_fieldOff_125_0 @tb_isAggT_23) (And.intro @tb_cellsT_23 (And.intro @tb_lenT_23 @tb_callable_76))) (And.intro (And.intro @tb_callable_87 (And.intro @tb_fieldOff_125_1 @tb_indexT_23)) (And.intro @tb_isAggT_5 (And.intro @tb_cellsT_5 @tb_convT_5_67)))))
abbrev tf75 := (And.intro (And.intro (And.intro @tb_res_75 @tb_fieldOff_125_2) (And.intro @tb_isAggT_3 (And.intro @tb_cellsT_3 @tb_fieldOff_125_0))) (And.intro (And.intro @tb_isAggT_23 (And.intro @tb_cellsT_23 @tb_fieldOff_125_1)) (And.intro @tb_indexT_23 (And.intro @tb_isAggT_5 @tb_cellsT_5))))
abbrev tf76 := (And.intro (And.intro @tb_res_76 @tb_ifaceT_28) (And.intro @tb_buildT_80 @tb_ifaceT_80))
abbrev tf77 := (And.intro (And.intro @tb_res_77 @tb_eqT_91) (And.intro @tb_fieldOff_127_0 @tb_callable_88))
abbrev tf78 := (And.intro (And.intro (And.intro @tb_res_78 (And.intro @tb_callable_89 @tb_fieldOff_132_1)) (And.intro (And.intro @tb_isAggT_3 @tb_cellsT_3) (And.intro @tb_fieldOff_132_0 @tb_isAggT_23))) (And.intro (And.intro (And.intro @tb_cellsT_23 @tb_lenT_23) (And.intro @tb_callable_80 @tb_callable_79)) (And.intro (And.intro @tb_indexT_23 @tb_isAggT_5) (And.intro @tb_cellsT_5 @tb_convT_5_67))))
abbrev tf79 := (And.intro (And.intro (And.intro @tb_res_79 @tb_zeroT_30) (And.intro @tb_fieldOff_132_3 @tb_fieldOff_30_0)) (And.intro (And.intro @tb_isAggT_28 @tb_cellsT_28) (And.intro @tb_isAggT_30 @tb_cellsT_30)))
abbrev tf80 := (And.intro (And.intro @tb_res_80 @tb_isAggT_30) (And.intro @tb_cellsT_30 (And.intro @tb_zeroT_30 @tb_buildT_30)))
abbrev tf81 := (And.intro (And.intro (And.intro @tb_res_81 (And.intro @tb_fieldOff_132_2 @tb_isAggT_3)) (And.intro @tb_cellsT_3 (And.intro @tb_fieldOff_132_0 @tb_isAggT_23))) (And.intro (And.intro @tb_cellsT_23 (And.intro @tb_fieldOff_132_1 @tb_indexT_23)) (And.intro @tb_isAggT_5 (And.intro @tb_cellsT_5 @tb_convT_5_3))))
abbrev tf82 := (And.intro (And.intro (And.intro @tb_res_82 @tb_eqT_96) (And.intro @tb_fieldOff_132_0 @tb_isAggT_23)) (And.intro (And.intro @tb_cellsT_23 @tb_lenT_23) (And.intro @tb_fieldOff_132_1 (And.intro @tb_isAggT_3 @tb_cellsT_3))))
abbrev tf86 := (And.intro (And.intro (And.intro @tb_res_86 (And.intro @tb_eqT_91 @tb_fieldOff_127_1)) (And.intro @tb_isAggT_25 (And.intro @tb_cellsT_25 @tb_eqT_25))) (And.intro (And.intro @tb_fieldOff_127_0 (And.intro @tb_callable_75 @tb_fieldOff_125_1)) (And.intro (And.intro @tb_isAggT_3 @tb_cellsT_3) (And.intro @tb_callable_76 @tb_callable_87))))
abbrev tf87 := (And.intro (And.intro @tb_res_87 (And.intro @tb_eqT_91 @tb_fieldOff_127_1)) (And.intro @tb_isAggT_25 (And.intro @tb_cellsT_25 @tb_eqT_25)))
abbrev tf88 := (And.intro (And.intro (And.intro @tb_res_88 @tb_eqT_151) (And.intro @tb_fieldOff_125_0 @tb_isAggT_23)) (And.intro (And.intro @tb_cellsT_23 @tb_lenT_23) (And.intro @tb_fieldOff_125_1 (And.intro @tb_isAggT_3 @tb_cellsT_3))))
abbrev tf89 := (And.intro (And.intro (And.intro @tb_res_89 (And.intro @tb_fieldOff_132_3 @tb_fieldOff_30_0)) (And.intro (And.intro @tb_isAggT_28 @tb_cellsT_28) (And.intro @tb_callable_81 @tb_fieldOff_132_1))) (And.intro (And.intro (And.intro @tb_isAggT_3 @tb_cellsT_3) (And.intro @tb_callable_80 @tb_callable_79)) (And.intro (And.intro @tb_fieldOff_132_0 @tb_isAggT_23) (And.intro @tb_cellsT_23 @tb_lenT_23))))
abbrev tf110 := (And.intro (And.intro @tb_res_110 @tb_zeroT_80) (And.intro @tb_fieldOff_80_1 (And.intro @tb_isAggT_25 @tb_cellsT_25)))
abbrev tf112 := (And.intro (And.intro @tb_res_112 @tb_zeroT_82) (And.intro @tb_fieldOff_82_1 (And.intro @tb_isAggT_25 @tb_cellsT_25)))
abbrev tf134 := (And.intro (And.intro @tb_res_134 @tb_ifaceT_181) (And.intro @tb_callable_83 (And.intro @tb_isAggT_118 @tb_cellsT_118)))
end Go.Proofs.YtmgiichlccdcfaaDoor
