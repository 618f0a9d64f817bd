/- Closed facts on the tables of the program, each by the kernel: written by a program. -/
import Derived.Test.YtcjlhfmjcioeeaaDoorDen
import Derived.Test.YtcjlhfmjcioeeaaDoorProg
import Derived.KernelRfl
set_option maxRecDepth 100000
namespace Go.Proofs.YtcjlhfmjcioeeaaDoor
open Go
theorem mixed : Tryd.prog.follows .mixedOrders = true := by kernel_rfl
theorem tb_bsT_23_0 : bsT Tryd.prog 23 0 = some (5, 1, #[]) := by kernel_rfl
theorem tb_bsT_23_1 : bsT Tryd.prog 23 1 = some (5, 1, #[.int .u8 0]) := by kernel_rfl
theorem tb_bsT_23_3 : bsT Tryd.prog 23 3 = some (5, 1, #[.int .u8 0, .int .u8 0, .int .u8 0]) := by kernel_rfl
theorem tb_bsT_23_4 : bsT Tryd.prog 23 4 = some (5, 1, #[.int .u8 0, .int .u8 0, .int .u8 0, .int .u8 0]) := by kernel_rfl
theorem tb_bsT_23_9 : bsT Tryd.prog 23 9 = some (5, 1, #[.int .u8 0, .int .u8 0, .int .u8 0, .int .u8 0, .int .u8 0, .int .u8 0, .int .u8 0, .int .u8 0, .int .u8 0]) := by kernel_rfl
theorem tb_buildT_105 : buildT Tryd.prog 105 = some (#[.int .u32 0, .int .u32 0, .int .u32 0, .int .u32 0, .int .u32 0, .int .u32 0, .int .u32 0, .int .u32 0, .int .u32 0, .int .u32 0, .int .u32 0, .int .u32 0, .int .u32 0, .int .u32 0, .int .u32 0, .int .u32 0], [(0, 1), (1, 1), (2, 1), (3, 1), (4, 1), (5, 1), (6, 1), (7, 1), (8, 1), (9, 1), (10, 1), (11, 1), (12, 1), (13, 1), (14, 1), (15, 1)]) := by kernel_rfl
theorem tb_buildT_31 : buildT Tryd.prog 31 = some (#[.int .i64 0, .int .i64 0, .int .i64 0, .bool false, .bool false], [(0, 1), (1, 1), (2, 1), (3, 1), (4, 1)]) := by kernel_rfl
theorem tb_buildT_59 : buildT Tryd.prog 59 = some (#[.slice none 0 0, .int .i64 0], [(0, 1), (1, 1)]) := by kernel_rfl
theorem tb_buildT_74 : buildT Tryd.prog 74 = some (#[.slice none 0 0, .int .i64 0], [(0, 1), (1, 1)]) := by kernel_rfl
theorem tb_buildT_84 : buildT Tryd.prog 84 = some (#[.int .i64 0, .nilIface], [(0, 1), (1, 1)]) := by kernel_rfl
theorem tb_buildT_93 : buildT Tryd.prog 93 = some (#[.slice none 0 0, .int .i64 0, .int .i64 0], [(0, 1), (1, 1), (2, 1)]) := by kernel_rfl
theorem tb_buildT_95 : buildT Tryd.prog 95 = some (#[.slice none 0 0, .int .i64 0, .int .i64 0, .nilIface], [(0, 3), (3, 1)]) := by kernel_rfl
theorem tb_buildT_97 : buildT Tryd.prog 97 = some (#[.slice none 0 0, .int .i64 0, .int .i64 0, .int .i64 0, .int .i64 0, .int .i64 0, .bool false, .bool false], [(0, 1), (1, 1), (2, 1), (3, 5)]) := by kernel_rfl
theorem tb_callable_1 : callable Tryd.prog 1 = false := by kernel_rfl
theorem tb_callable_10 : callable Tryd.prog 10 = true := by kernel_rfl
theorem tb_callable_11 : callable Tryd.prog 11 = true := by kernel_rfl
theorem tb_callable_111 : callable Tryd.prog 111 = true := by kernel_rfl
theorem tb_callable_113 : callable Tryd.prog 113 = true := by kernel_rfl
theorem tb_callable_12 : callable Tryd.prog 12 = true := by kernel_rfl
theorem tb_callable_13 : callable Tryd.prog 13 = true := by kernel_rfl
theorem tb_callable_132 : callable Tryd.prog 132 = true := by kernel_rfl
theorem tb_callable_14 : callable Tryd.prog 14 = true := by kernel_rfl
theorem tb_callable_15 : callable Tryd.prog 15 = true := by kernel_rfl
theorem tb_callable_16 : callable Tryd.prog 16 = true := by kernel_rfl
theorem tb_callable_17 : callable Tryd.prog 17 = true := by kernel_rfl
theorem tb_callable_18 : callable Tryd.prog 18 = true := by kernel_rfl
theorem tb_callable_19 : callable Tryd.prog 19 = true := by kernel_rfl
theorem tb_callable_2 : callable Tryd.prog 2 = true := by kernel_rfl
theorem tb_callable_20 : callable Tryd.prog 20 = true := by kernel_rfl
theorem tb_callable_21 : callable Tryd.prog 21 = true := by kernel_rfl
theorem tb_callable_22 : callable Tryd.prog 22 = true := by kernel_rfl
theorem tb_callable_23 : callable Tryd.prog 23 = true := by kernel_rfl
theorem tb_callable_24 : callable Tryd.prog 24 = true := by kernel_rfl
theorem tb_callable_25 : callable Tryd.prog 25 = true := by kernel_rfl
theorem tb_callable_26 : callable Tryd.prog 26 = true := by kernel_rfl
theorem tb_callable_27 : callable Tryd.prog 27 = true := by kernel_rfl
theorem tb_callable_28 : callable Tryd.prog 28 = true := by kernel_rfl
theorem tb_callable_29 : callable Tryd.prog 29 = true := by kernel_rfl
theorem tb_callable_3 : callable Tryd.prog 3 = true := by kernel_rfl
theorem tb_callable_30 : callable Tryd.prog 30 = true := by kernel_rfl
theorem tb_callable_31 : callable Tryd.prog 31 = true := by kernel_rfl
theorem tb_callable_32 : callable Tryd.prog 32 = true := by kernel_rfl
theorem tb_callable_33 : callable Tryd.prog 33 = true := by kernel_rfl
theorem tb_callable_34 : callable Tryd.prog 34 = true := by kernel_rfl
theorem tb_callable_35 : callable Tryd.prog 35 = true := by kernel_rfl
theorem tb_callable_36 : callable Tryd.prog 36 = true := by kernel_rfl
theorem tb_callable_37 : callable Tryd.prog 37 = true := by kernel_rfl
theorem tb_callable_38 : callable Tryd.prog 38 = true := by kernel_rfl
theorem tb_callable_39 : callable Tryd.prog 39 = true := by kernel_rfl
theorem tb_callable_4 : callable Tryd.prog 4 = true := by kernel_rfl
theorem tb_callable_40 : callable Tryd.prog 40 = true := by kernel_rfl
theorem tb_callable_41 : callable Tryd.prog 41 = true := by kernel_rfl
theorem tb_callable_42 : callable Tryd.prog 42 = true := by kernel_rfl
theorem tb_callable_43 : callable Tryd.prog 43 = true := by kernel_rfl
theorem tb_callable_44 : callable Tryd.prog 44 = true := by kernel_rfl
theorem tb_callable_45 : callable Tryd.prog 45 = true := by kernel_rfl
theorem tb_callable_46 : callable Tryd.prog 46 = true := by kernel_rfl
theorem tb_callable_47 : callable Tryd.prog 47 = true := by kernel_rfl
theorem tb_callable_48 : callable Tryd.prog 48 = true := by kernel_rfl
theorem tb_callable_49 : callable Tryd.prog 49 = true := by kernel_rfl
theorem tb_callable_5 : callable Tryd.prog 5 = true := by kernel_rfl
theorem tb_callable_50 : callable Tryd.prog 50 = true := by kernel_rfl
theorem tb_callable_51 : callable Tryd.prog 51 = true := by kernel_rfl
theorem tb_callable_52 : callable Tryd.prog 52 = true := by kernel_rfl
theorem tb_callable_53 : callable Tryd.prog 53 = true := by kernel_rfl
theorem tb_callable_54 : callable Tryd.prog 54 = true := by kernel_rfl
theorem tb_callable_55 : callable Tryd.prog 55 = true := by kernel_rfl
theorem tb_callable_56 : callable Tryd.prog 56 = true := by kernel_rfl
theorem tb_callable_57 : callable Tryd.prog 57 = true := by kernel_rfl
theorem tb_callable_58 : callable Tryd.prog 58 = true := by kernel_rfl
theorem tb_callable_59 : callable Tryd.prog 59 = true := by kernel_rfl
theorem tb_callable_6 : callable Tryd.prog 6 = true := by kernel_rfl
theorem tb_callable_60 : callable Tryd.prog 60 = true := by kernel_rfl
theorem tb_callable_61 : callable Tryd.prog 61 = true := by kernel_rfl
theorem tb_callable_62 : callable Tryd.prog 62 = true := by kernel_rfl
theorem tb_callable_63 : callable Tryd.prog 63 = true := by kernel_rfl
theorem tb_callable_64 : callable Tryd.prog 64 = true := by kernel_rfl
theorem tb_callable_65 : callable Tryd.prog 65 = true := by kernel_rfl
theorem tb_callable_66 : callable Tryd.prog 66 = true := by kernel_rfl
theorem tb_callable_67 : callable Tryd.prog 67 = true := by kernel_rfl
theorem tb_callable_68 : callable Tryd.prog 68 = true := by kernel_rfl
theorem tb_callable_69 : callable Tryd.prog 69 = true := by kernel_rfl
theorem tb_callable_7 : callable Tryd.prog 7 = true := by kernel_rfl
theorem tb_callable_70 : callable Tryd.prog 70 = true := by kernel_rfl
theorem tb_callable_71 : callable Tryd.prog 71 = true := by kernel_rfl
theorem tb_callable_72 : callable Tryd.prog 72 = true := by kernel_rfl
theorem tb_callable_73 : callable Tryd.prog 73 = true := by kernel_rfl
theorem tb_callable_74 : callable Tryd.prog 74 = true := by kernel_rfl
theorem tb_callable_75 : callable Tryd.prog 75 = true := by kernel_rfl
theorem tb_callable_76 : callable Tryd.prog 76 = true := by kernel_rfl
theorem tb_callable_77 : callable Tryd.prog 77 = true := by kernel_rfl
theorem tb_callable_78 : callable Tryd.prog 78 = false := by kernel_rfl
theorem tb_callable_79 : callable Tryd.prog 79 = false := by kernel_rfl
theorem tb_callable_8 : callable Tryd.prog 8 = true := by kernel_rfl
theorem tb_callable_80 : callable Tryd.prog 80 = false := by kernel_rfl
theorem tb_callable_81 : callable Tryd.prog 81 = true := by kernel_rfl
theorem tb_callable_82 : callable Tryd.prog 82 = true := by kernel_rfl
theorem tb_callable_83 : callable Tryd.prog 83 = true := by kernel_rfl
theorem tb_callable_84 : callable Tryd.prog 84 = true := by kernel_rfl
theorem tb_callable_85 : callable Tryd.prog 85 = true := by kernel_rfl
theorem tb_callable_86 : callable Tryd.prog 86 = true := by kernel_rfl
theorem tb_callable_87 : callable Tryd.prog 87 = true := by kernel_rfl
theorem tb_callable_88 : callable Tryd.prog 88 = true := by kernel_rfl
theorem tb_callable_89 : callable Tryd.prog 89 = false := by kernel_rfl
theorem tb_callable_9 : callable Tryd.prog 9 = true := by kernel_rfl
theorem tb_callable_90 : callable Tryd.prog 90 = false := by kernel_rfl
theorem tb_callable_91 : callable Tryd.prog 91 = false := by kernel_rfl
theorem tb_cellsT_105 : cellsT Tryd.prog 105 = some 16 := by kernel_rfl
theorem tb_cellsT_109 : cellsT Tryd.prog 109 = some 3 := by kernel_rfl
theorem tb_cellsT_112 : cellsT Tryd.prog 112 = some 1 := by kernel_rfl
theorem tb_cellsT_22 : cellsT Tryd.prog 22 = some 1 := by kernel_rfl
theorem tb_cellsT_23 : cellsT Tryd.prog 23 = some 1 := by kernel_rfl
theorem tb_cellsT_26 : cellsT Tryd.prog 26 = some 1 := by kernel_rfl
theorem tb_cellsT_29 : cellsT Tryd.prog 29 = some 1 := by kernel_rfl
theorem tb_cellsT_3 : cellsT Tryd.prog 3 = some 1 := by kernel_rfl
theorem tb_cellsT_31 : cellsT Tryd.prog 31 = some 5 := by kernel_rfl
theorem tb_cellsT_4 : cellsT Tryd.prog 4 = some 1 := by kernel_rfl
theorem tb_cellsT_49 : cellsT Tryd.prog 49 = some 4 := by kernel_rfl
theorem tb_cellsT_5 : cellsT Tryd.prog 5 = some 1 := by kernel_rfl
theorem tb_cellsT_64 : cellsT Tryd.prog 64 = some 1 := by kernel_rfl
theorem tb_cellsT_93 : cellsT Tryd.prog 93 = some 3 := by kernel_rfl
theorem tb_convT_22_2 : convT Tryd.prog 22 2 = .toInt .i64 := by kernel_rfl
theorem tb_convT_22_29 : convT Tryd.prog 22 29 = .toInt .i64 := by kernel_rfl
theorem tb_convT_22_3 : convT Tryd.prog 22 3 = .toInt .i64 := by kernel_rfl
theorem tb_convT_22_5 : convT Tryd.prog 22 5 = .toInt .u8 := by kernel_rfl
theorem tb_convT_22_64 : convT Tryd.prog 22 64 = .toInt .u32 := by kernel_rfl
theorem tb_convT_23_23 : convT Tryd.prog 23 23 = .other := by kernel_rfl
theorem tb_convT_23_9 : convT Tryd.prog 23 9 = .strStr := by kernel_rfl
theorem tb_convT_2_22 : convT Tryd.prog 2 22 = .toInt .u64 := by kernel_rfl
theorem tb_convT_3_22 : convT Tryd.prog 3 22 = .toInt .u64 := by kernel_rfl
theorem tb_convT_3_5 : convT Tryd.prog 3 5 = .toInt .u8 := by kernel_rfl
theorem tb_convT_3_64 : convT Tryd.prog 3 64 = .toInt .u32 := by kernel_rfl
theorem tb_convT_5_22 : convT Tryd.prog 5 22 = .toInt .u64 := by kernel_rfl
theorem tb_convT_5_3 : convT Tryd.prog 5 3 = .toInt .i64 := by kernel_rfl
theorem tb_convT_5_64 : convT Tryd.prog 5 64 = .toInt .u32 := by kernel_rfl
theorem tb_convT_64_22 : convT Tryd.prog 64 22 = .toInt .u64 := by kernel_rfl
theorem tb_convT_64_3 : convT Tryd.prog 64 3 = .toInt .i64 := by kernel_rfl
theorem tb_convT_64_5 : convT Tryd.prog 64 5 = .toInt .u8 := by kernel_rfl
theorem tb_convT_9_23 : convT Tryd.prog 9 23 = .other := by kernel_rfl
theorem tb_eqT_123 : eqT Tryd.prog 123 = .ptr := by kernel_rfl
theorem tb_eqT_20 : eqT Tryd.prog 20 = .iface := by kernel_rfl
theorem tb_eqT_23 : eqT Tryd.prog 23 = .sl := by kernel_rfl
theorem tb_eqT_26 : eqT Tryd.prog 26 = .iface := by kernel_rfl
theorem tb_eqT_4 : eqT Tryd.prog 4 = .bool := by kernel_rfl
theorem tb_eqT_44 : eqT Tryd.prog 44 = .ptr := by kernel_rfl
theorem tb_eqT_46 : eqT Tryd.prog 46 = .ptr := by kernel_rfl
theorem tb_eqT_55 : eqT Tryd.prog 55 = .ptr := by kernel_rfl
theorem tb_fieldOff_31_0 : fieldOff Tryd.prog 31 0 = some 0 := by kernel_rfl
theorem tb_fieldOff_31_1 : fieldOff Tryd.prog 31 1 = some 1 := by kernel_rfl
theorem tb_fieldOff_31_2 : fieldOff Tryd.prog 31 2 = some 2 := by kernel_rfl
theorem tb_fieldOff_31_3 : fieldOff Tryd.prog 31 3 = some 3 := by kernel_rfl
theorem tb_fieldOff_31_4 : fieldOff Tryd.prog 31 4 = some 4 := by kernel_rfl
theorem tb_fieldOff_49_0 : fieldOff Tryd.prog 49 0 = some 0 := by kernel_rfl
theorem tb_fieldOff_49_1 : fieldOff Tryd.prog 49 1 = some 1 := by kernel_rfl
theorem tb_fieldOff_49_2 : fieldOff Tryd.prog 49 2 = some 2 := by kernel_rfl
theorem tb_fieldOff_49_3 : fieldOff Tryd.prog 49 3 = some 3 := by kernel_rfl
theorem tb_fieldOff_59_0 : fieldOff Tryd.prog 59 0 = some 0 := by kernel_rfl
theorem tb_fieldOff_59_1 : fieldOff Tryd.prog 59 1 = some 1 := by kernel_rfl
theorem tb_fieldOff_74_0 : fieldOff Tryd.prog 74 0 = some 0 := by kernel_rfl
theorem tb_fieldOff_74_1 : fieldOff Tryd.prog 74 1 = some 1 := by kernel_rfl
theorem tb_fieldOff_84_0 : fieldOff Tryd.prog 84 0 = some 0 := by kernel_rfl
theorem tb_fieldOff_84_1 : fieldOff Tryd.prog 84 1 = some 1 := by kernel_rfl
theorem tb_fieldOff_86_0 : fieldOff Tryd.prog 86 0 = some 0 := by kernel_rfl
theorem tb_fieldOff_86_1 : fieldOff Tryd.prog 86 1 = some 1 := by kernel_rfl
theorem tb_fieldOff_93_0 : fieldOff Tryd.prog 93 0 = some 0 := by kernel_rfl
theorem tb_fieldOff_93_1 : fieldOff Tryd.prog 93 1 = some 1 := by kernel_rfl
theorem tb_fieldOff_93_2 : fieldOff Tryd.prog 93 2 = some 2 := by kernel_rfl
theorem tb_fieldOff_95_0 : fieldOff Tryd.prog 95 0 = some 0 := by kernel_rfl
theorem tb_fieldOff_95_1 : fieldOff Tryd.prog 95 1 = some 3 := by kernel_rfl
theorem tb_fieldOff_97_0 : fieldOff Tryd.prog 97 0 = some 0 := by kernel_rfl
theorem tb_fieldOff_97_1 : fieldOff Tryd.prog 97 1 = some 1 := by kernel_rfl
theorem tb_fieldOff_97_2 : fieldOff Tryd.prog 97 2 = some 2 := by kernel_rfl
theorem tb_fieldOff_97_3 : fieldOff Tryd.prog 97 3 = some 3 := by kernel_rfl
theorem tb_ifaceT_131 : ifaceT Tryd.prog 131 = some true := by kernel_rfl
theorem tb_ifaceT_134 : ifaceT Tryd.prog 134 = some true := by kernel_rfl
theorem tb_ifaceT_135 : ifaceT Tryd.prog 135 = some true := by kernel_rfl
theorem tb_ifaceT_165 : ifaceT Tryd.prog 165 = some false := by kernel_rfl
theorem tb_ifaceT_29 : ifaceT Tryd.prog 29 = some false := by kernel_rfl
theorem tb_ifaceT_84 : ifaceT Tryd.prog 84 = some false := by kernel_rfl
theorem tb_ifaceT_88 : ifaceT Tryd.prog 88 = some false := by kernel_rfl
theorem tb_ifaceT_89 : ifaceT Tryd.prog 89 = some false := by kernel_rfl
theorem tb_ifaceT_9 : ifaceT Tryd.prog 9 = some false := by kernel_rfl
theorem tb_ifaceT_90 : ifaceT Tryd.prog 90 = some false := by kernel_rfl
theorem tb_indexT_105 : indexT Tryd.prog 105 = some (.arr 16 1 false) := by kernel_rfl
theorem tb_indexT_136 : indexT Tryd.prog 136 = some (.sl 1) := by kernel_rfl
theorem tb_indexT_23 : indexT Tryd.prog 23 = some (.sl 1) := by kernel_rfl
theorem tb_indexT_43 : indexT Tryd.prog 43 = some (.sl 4) := by kernel_rfl
theorem tb_isAggT_105 : isAggT Tryd.prog 105 = some true := by kernel_rfl
theorem tb_isAggT_109 : isAggT Tryd.prog 109 = some true := by kernel_rfl
theorem tb_isAggT_112 : isAggT Tryd.prog 112 = some false := by kernel_rfl
theorem tb_isAggT_22 : isAggT Tryd.prog 22 = some false := by kernel_rfl
theorem tb_isAggT_23 : isAggT Tryd.prog 23 = some false := by kernel_rfl
theorem tb_isAggT_26 : isAggT Tryd.prog 26 = some false := by kernel_rfl
theorem tb_isAggT_29 : isAggT Tryd.prog 29 = some false := by kernel_rfl
theorem tb_isAggT_3 : isAggT Tryd.prog 3 = some false := by kernel_rfl
theorem tb_isAggT_31 : isAggT Tryd.prog 31 = some true := by kernel_rfl
theorem tb_isAggT_4 : isAggT Tryd.prog 4 = some false := by kernel_rfl
theorem tb_isAggT_49 : isAggT Tryd.prog 49 = some true := by kernel_rfl
theorem tb_isAggT_5 : isAggT Tryd.prog 5 = some false := by kernel_rfl
theorem tb_isAggT_64 : isAggT Tryd.prog 64 = some false := by kernel_rfl
theorem tb_isAggT_93 : isAggT Tryd.prog 93 = some true := by kernel_rfl
theorem tb_lenT_136 : lenT Tryd.prog 136 = .sl := by kernel_rfl
theorem tb_lenT_23 : lenT Tryd.prog 23 = .sl := by kernel_rfl
theorem tb_lenT_43 : lenT Tryd.prog 43 = .sl := by kernel_rfl
theorem tb_res_10 : Tryd.f10.results.toList = [.tmp 0] := by kernel_rfl
theorem tb_res_11 : Tryd.f11.results.toList = [.tmp 4] := by kernel_rfl
theorem tb_res_111 : Tryd.f111.results.toList = [.tmp 2] := by kernel_rfl
theorem tb_res_113 : Tryd.f113.results.toList = [.tmp 2] := by kernel_rfl
theorem tb_res_12 : Tryd.f12.results.toList = [.tmp 4] := by kernel_rfl
theorem tb_res_13 : Tryd.f13.results.toList = [.tmp 4] := by kernel_rfl
theorem tb_res_132 : Tryd.f132.results.toList = [] := by kernel_rfl
theorem tb_res_14 : Tryd.f14.results.toList = [.tmp 2, .tmp 3, .tmp 4, .tmp 5, .tmp 6] := by kernel_rfl
theorem tb_res_15 : Tryd.f15.results.toList = [.tmp 2, .tmp 3, .tmp 4, .tmp 5, .cell 6 31] := by kernel_rfl
theorem tb_res_16 : Tryd.f16.results.toList = [.tmp 2] := by kernel_rfl
theorem tb_res_17 : Tryd.f17.results.toList = [.tmp 2] := by kernel_rfl
theorem tb_res_18 : Tryd.f18.results.toList = [.tmp 6] := by kernel_rfl
theorem tb_res_19 : Tryd.f19.results.toList = [.tmp 2] := by kernel_rfl
theorem tb_res_2 : Tryd.f2.results.toList = [] := by kernel_rfl
theorem tb_res_20 : Tryd.f20.results.toList = [.tmp 2] := by kernel_rfl
theorem tb_res_21 : Tryd.f21.results.toList = [.tmp 2] := by kernel_rfl
theorem tb_res_22 : Tryd.f22.results.toList = [.tmp 2] := by kernel_rfl
theorem tb_res_23 : Tryd.f23.results.toList = [.tmp 2] := by kernel_rfl
theorem tb_res_24 : Tryd.f24.results.toList = [.cell 2 31] := by kernel_rfl
theorem tb_res_25 : Tryd.f25.results.toList = [.tmp 2] := by kernel_rfl
theorem tb_res_26 : Tryd.f26.results.toList = [.cell 2 31] := by kernel_rfl
theorem tb_res_27 : Tryd.f27.results.toList = [] := by kernel_rfl
theorem tb_res_28 : Tryd.f28.results.toList = [] := by kernel_rfl
theorem tb_res_29 : Tryd.f29.results.toList = [.tmp 2] := by kernel_rfl
theorem tb_res_3 : Tryd.f3.results.toList = [.tmp 6] := by kernel_rfl
theorem tb_res_30 : Tryd.f30.results.toList = [.tmp 2] := by kernel_rfl
theorem tb_res_31 : Tryd.f31.results.toList = [.tmp 2] := by kernel_rfl
theorem tb_res_32 : Tryd.f32.results.toList = [.tmp 2] := by kernel_rfl
theorem tb_res_33 : Tryd.f33.results.toList = [.tmp 2] := by kernel_rfl
theorem tb_res_34 : Tryd.f34.results.toList = [.tmp 4] := by kernel_rfl
theorem tb_res_35 : Tryd.f35.results.toList = [.tmp 2] := by kernel_rfl
theorem tb_res_36 : Tryd.f36.results.toList = [.tmp 4] := by kernel_rfl
theorem tb_res_37 : Tryd.f37.results.toList = [.tmp 4] := by kernel_rfl
theorem tb_res_38 : Tryd.f38.results.toList = [.tmp 4] := by kernel_rfl
theorem tb_res_39 : Tryd.f39.results.toList = [.tmp 4] := by kernel_rfl
theorem tb_res_4 : Tryd.f4.results.toList = [.tmp 2] := by kernel_rfl
theorem tb_res_40 : Tryd.f40.results.toList = [] := by kernel_rfl
theorem tb_res_41 : Tryd.f41.results.toList = [] := by kernel_rfl
theorem tb_res_42 : Tryd.f42.results.toList = [.tmp 2] := by kernel_rfl
theorem tb_res_43 : Tryd.f43.results.toList = [] := by kernel_rfl
theorem tb_res_44 : Tryd.f44.results.toList = [.cell 2 31] := by kernel_rfl
theorem tb_res_45 : Tryd.f45.results.toList = [] := by kernel_rfl
theorem tb_res_46 : Tryd.f46.results.toList = [] := by kernel_rfl
theorem tb_res_47 : Tryd.f47.results.toList = [.tmp 2] := by kernel_rfl
theorem tb_res_48 : Tryd.f48.results.toList = [] := by kernel_rfl
theorem tb_res_49 : Tryd.f49.results.toList = [] := by kernel_rfl
theorem tb_res_5 : Tryd.f5.results.toList = [.tmp 4] := by kernel_rfl
theorem tb_res_50 : Tryd.f50.results.toList = [.tmp 4] := by kernel_rfl
theorem tb_res_51 : Tryd.f51.results.toList = [.tmp 2, .tmp 3, .tmp 4, .tmp 5, .tmp 6] := by kernel_rfl
theorem tb_res_52 : Tryd.f52.results.toList = [.tmp 2] := by kernel_rfl
theorem tb_res_53 : Tryd.f53.results.toList = [.tmp 2] := by kernel_rfl
theorem tb_res_54 : Tryd.f54.results.toList = [.tmp 2] := by kernel_rfl
theorem tb_res_55 : Tryd.f55.results.toList = [.tmp 4] := by kernel_rfl
theorem tb_res_56 : Tryd.f56.results.toList = [.tmp 2] := by kernel_rfl
theorem tb_res_57 : Tryd.f57.results.toList = [.tmp 4] := by kernel_rfl
theorem tb_res_58 : Tryd.f58.results.toList = [.tmp 4] := by kernel_rfl
theorem tb_res_59 : Tryd.f59.results.toList = [.tmp 4] := by kernel_rfl
theorem tb_res_6 : Tryd.f6.results.toList = [.tmp 2] := by kernel_rfl
theorem tb_res_60 : Tryd.f60.results.toList = [.tmp 4] := by kernel_rfl
theorem tb_res_61 : Tryd.f61.results.toList = [] := by kernel_rfl
theorem tb_res_62 : Tryd.f62.results.toList = [.cell 4 31] := by kernel_rfl
theorem tb_res_63 : Tryd.f63.results.toList = [.tmp 2] := by kernel_rfl
theorem tb_res_64 : Tryd.f64.results.toList = [.tmp 2] := by kernel_rfl
theorem tb_res_65 : Tryd.f65.results.toList = [.tmp 2] := by kernel_rfl
theorem tb_res_66 : Tryd.f66.results.toList = [.tmp 2] := by kernel_rfl
theorem tb_res_67 : Tryd.f67.results.toList = [] := by kernel_rfl
theorem tb_res_68 : Tryd.f68.results.toList = [] := by kernel_rfl
theorem tb_res_69 : Tryd.f69.results.toList = [] := by kernel_rfl
theorem tb_res_7 : Tryd.f7.results.toList = [.tmp 2] := by kernel_rfl
theorem tb_res_70 : Tryd.f70.results.toList = [] := by kernel_rfl
theorem tb_res_71 : Tryd.f71.results.toList = [] := by kernel_rfl
theorem tb_res_72 : Tryd.f72.results.toList = [] := by kernel_rfl
theorem tb_res_73 : Tryd.f73.results.toList = [] := by kernel_rfl
theorem tb_res_74 : Tryd.f74.results.toList = [] := by kernel_rfl
theorem tb_res_75 : Tryd.f75.results.toList = [.tmp 4] := by kernel_rfl
theorem tb_res_76 : Tryd.f76.results.toList = [.tmp 6] := by kernel_rfl
theorem tb_res_77 : Tryd.f77.results.toList = [.tmp 4] := by kernel_rfl
theorem tb_res_8 : Tryd.f8.results.toList = [.tmp 6, .tmp 7] := by kernel_rfl
theorem tb_res_81 : Tryd.f81.results.toList = [.tmp 8] := by kernel_rfl
theorem tb_res_82 : Tryd.f82.results.toList = [.tmp 4] := by kernel_rfl
theorem tb_res_83 : Tryd.f83.results.toList = [.tmp 2] := by kernel_rfl
theorem tb_res_84 : Tryd.f84.results.toList = [.tmp 6, .tmp 7] := by kernel_rfl
theorem tb_res_85 : Tryd.f85.results.toList = [.tmp 2] := by kernel_rfl
theorem tb_res_86 : Tryd.f86.results.toList = [.tmp 2] := by kernel_rfl
theorem tb_res_87 : Tryd.f87.results.toList = [.tmp 2] := by kernel_rfl
theorem tb_res_88 : Tryd.f88.results.toList = [.tmp 2] := by kernel_rfl
theorem tb_res_9 : Tryd.f9.results.toList = [.tmp 6, .cell 7 31] := by kernel_rfl
theorem tb_zeroT_105 : zeroT Tryd.prog 105 = some (.agg #[.int .u32 0, .int .u32 0, .int .u32 0, .int .u32 0, .int .u32 0, .int .u32 0, .int .u32 0, .int .u32 0, .int .u32 0, .int .u32 0, .int .u32 0, .int .u32 0, .int .u32 0, .int .u32 0, .int .u32 0, .int .u32 0]) := by kernel_rfl
theorem tb_zeroT_109 : zeroT Tryd.prog 109 = some (.agg #[.pointer none, .pointer none, .int .u64 0]) := by kernel_rfl
theorem tb_zeroT_29 : zeroT Tryd.prog 29 = some (.int .i64 0) := by kernel_rfl
theorem tb_zeroT_31 : zeroT Tryd.prog 31 = some (.agg #[.int .i64 0, .int .i64 0, .int .i64 0, .bool false, .bool false]) := by kernel_rfl
theorem tb_zeroT_49 : zeroT Tryd.prog 49 = some (.agg #[.int .i64 0, .int .u64 0, .int .i64 0, .slice none 0 0]) := by kernel_rfl
theorem tb_zeroT_59 : zeroT Tryd.prog 59 = some (.agg #[.slice none 0 0, .int .i64 0]) := by kernel_rfl
theorem tb_zeroT_74 : zeroT Tryd.prog 74 = some (.agg #[.slice none 0 0, .int .i64 0]) := by kernel_rfl
theorem tb_zeroT_84 : zeroT Tryd.prog 84 = some (.agg #[.int .i64 0, .nilIface]) := by kernel_rfl
theorem tb_zeroT_86 : zeroT Tryd.prog 86 = some (.agg #[.int .i64 0, .nilIface]) := by kernel_rfl
theorem tb_zeroT_93 : zeroT Tryd.prog 93 = some (.agg #[.slice none 0 0, .int .i64 0, .int .i64 0]) := by kernel_rfl
theorem tb_zeroT_95 : zeroT Tryd.prog 95 = some (.agg #[.slice none 0 0, .int .i64 0, .int .i64 0, .nilIface]) := by kernel_rfl
theorem tb_zeroT_97 : zeroT Tryd.prog 97 = some (.agg #[.slice none 0 0, .int .i64 0, .int .i64 0, .int .i64 0, .int .i64 0, .int .i64 0, .bool false, .bool false]) := by kernel_rfl
/- all facts that one function's walk wants. -/
abbrev tf2 := (And.intro @tb_res_2 @tb_callable_1)
abbrev tf3 := (And.intro (And.intro (And.intro @tb_res_3 @tb_callable_7) (And.intro @tb_callable_8 (And.intro @tb_callable_9 @tb_zeroT_31))) (And.intro (And.intro @tb_isAggT_31 (And.intro @tb_cellsT_31 @tb_callable_10)) (And.intro @tb_callable_11 (And.intro @tb_callable_12 @tb_callable_13))))
abbrev tf4 := (And.intro (And.intro (And.intro @tb_res_4 @tb_callable_7) (And.intro @tb_callable_14 (And.intro @tb_callable_15 @tb_zeroT_31))) (And.intro (And.intro @tb_isAggT_31 (And.intro @tb_cellsT_31 @tb_callable_10)) (And.intro @tb_callable_12 (And.intro @tb_callable_11 @tb_callable_13))))
abbrev tf5 := (And.intro (And.intro (And.intro (And.intro @tb_res_5 @tb_callable_7) (And.intro @tb_callable_16 (And.intro @tb_callable_17 @tb_eqT_44))) (And.intro (And.intro @tb_lenT_43 (And.intro @tb_indexT_43 @tb_isAggT_49)) (And.intro @tb_cellsT_49 (And.intro @tb_zeroT_49 @tb_callable_18)))) (And.intro (And.intro (And.intro @tb_callable_19 @tb_callable_20) (And.intro @tb_callable_21 (And.intro @tb_callable_22 @tb_callable_23))) (And.intro (And.intro @tb_callable_24 (And.intro @tb_callable_11 @tb_callable_10)) (And.intro @tb_callable_25 (And.intro @tb_callable_26 @tb_callable_13)))))
abbrev tf6 := (And.intro (And.intro (And.intro (And.intro @tb_res_6 (And.intro @tb_zeroT_49 @tb_buildT_59)) (And.intro (And.intro @tb_zeroT_59 @tb_isAggT_49) (And.intro @tb_cellsT_49 @tb_callable_27))) (And.intro (And.intro @tb_callable_29 (And.intro @tb_callable_28 @tb_callable_10)) (And.intro (And.intro @tb_callable_30 @tb_callable_31) (And.intro @tb_lenT_23 @tb_callable_32)))) (And.intro (And.intro (And.intro @tb_callable_33 (And.intro @tb_callable_34 @tb_callable_35)) (And.intro (And.intro @tb_callable_36 @tb_callable_37) (And.intro @tb_fieldOff_49_2 @tb_isAggT_3))) (And.intro (And.intro @tb_cellsT_3 (And.intro @tb_callable_38 @tb_callable_19)) (And.intro (And.intro @tb_callable_21 @tb_callable_23) (And.intro @tb_callable_39 @tb_callable_25)))))
abbrev tf7 := (And.intro (And.intro @tb_res_7 (And.intro @tb_lenT_23 @tb_indexT_23)) (And.intro @tb_isAggT_5 (And.intro @tb_cellsT_5 @tb_convT_3_5)))
abbrev tf8 := (And.intro (And.intro (And.intro @tb_res_8 (And.intro @tb_lenT_23 @tb_callable_29)) (And.intro @tb_zeroT_74 (And.intro @tb_callable_40 @tb_convT_3_64))) (And.intro (And.intro @tb_callable_41 (And.intro @tb_convT_22_64 @tb_fieldOff_74_0)) (And.intro (And.intro @tb_isAggT_23 @tb_cellsT_23) (And.intro @tb_callable_42 @tb_callable_43))))
abbrev tf9 := (And.intro (And.intro (And.intro (And.intro @tb_res_9 @tb_isAggT_31) (And.intro @tb_cellsT_31 (And.intro @tb_zeroT_31 @tb_lenT_23))) (And.intro (And.intro @tb_callable_44 @tb_buildT_59) (And.intro @tb_zeroT_59 (And.intro @tb_callable_45 @tb_convT_3_64)))) (And.intro (And.intro (And.intro @tb_callable_46 @tb_convT_22_64) (And.intro @tb_fieldOff_59_0 (And.intro @tb_isAggT_23 @tb_cellsT_23))) (And.intro (And.intro @tb_callable_47 @tb_indexT_23) (And.intro @tb_isAggT_5 (And.intro @tb_cellsT_5 @tb_buildT_31)))))
abbrev tf10 := (And.intro (And.intro (And.intro @tb_res_10 @tb_buildT_74) (And.intro @tb_zeroT_74 (And.intro @tb_callable_48 @tb_callable_49))) (And.intro (And.intro @tb_callable_31 (And.intro @tb_bsT_23_3 @tb_callable_12)) (And.intro @tb_bsT_23_9 (And.intro @tb_convT_23_23 @tb_callable_42))))
abbrev tf11 := (And.intro (And.intro (And.intro (And.intro @tb_res_11 (And.intro @tb_zeroT_31 @tb_fieldOff_31_0)) (And.intro @tb_isAggT_29 (And.intro @tb_cellsT_29 @tb_eqT_26))) (And.intro (And.intro @tb_zeroT_29 (And.intro @tb_zeroT_84 @tb_zeroT_86)) (And.intro @tb_ifaceT_88 (And.intro @tb_callable_50 @tb_ifaceT_89)))) (And.intro (And.intro (And.intro @tb_fieldOff_31_3 (And.intro @tb_isAggT_4 @tb_cellsT_4)) (And.intro @tb_eqT_4 (And.intro @tb_ifaceT_90 @tb_fieldOff_31_4))) (And.intro (And.intro @tb_fieldOff_84_0 (And.intro @tb_isAggT_3 @tb_cellsT_3)) (And.intro @tb_fieldOff_31_1 (And.intro @tb_fieldOff_86_0 @tb_fieldOff_31_2)))))
abbrev tf12 := (And.intro (And.intro @tb_res_12 @tb_lenT_23) (And.intro @tb_indexT_23 (And.intro @tb_isAggT_5 @tb_cellsT_5)))
abbrev tf13 := (And.intro (And.intro @tb_res_13 (And.intro @tb_callable_12 @tb_lenT_23)) (And.intro (And.intro @tb_indexT_23 @tb_isAggT_5) (And.intro @tb_cellsT_5 @tb_convT_3_5)))
abbrev tf14 := (And.intro (And.intro (And.intro @tb_res_14 @tb_lenT_23) (And.intro @tb_indexT_23 (And.intro @tb_callable_16 @tb_callable_32))) (And.intro (And.intro @tb_callable_33 @tb_convT_64_3) (And.intro @tb_convT_64_22 (And.intro @tb_callable_42 @tb_callable_52))))
abbrev tf15 := (And.intro (And.intro (And.intro @tb_res_15 (And.intro @tb_isAggT_31 @tb_cellsT_31)) (And.intro (And.intro @tb_zeroT_31 @tb_lenT_23) (And.intro @tb_callable_44 @tb_callable_17))) (And.intro (And.intro @tb_callable_53 (And.intro @tb_callable_54 @tb_convT_64_3)) (And.intro (And.intro @tb_convT_64_22 @tb_indexT_23) (And.intro @tb_callable_47 @tb_buildT_31))))
abbrev tf16 := (And.intro (And.intro @tb_res_16 @tb_callable_52) (And.intro @tb_buildT_93 (And.intro @tb_buildT_95 @tb_zeroT_95)))
abbrev tf17 := (And.intro (And.intro @tb_res_17 (And.intro @tb_buildT_97 @tb_zeroT_97)) (And.intro @tb_fieldOff_97_0 (And.intro @tb_isAggT_23 @tb_cellsT_23)))
abbrev tf18 := (And.intro (And.intro (And.intro (And.intro @tb_res_18 (And.intro @tb_zeroT_49 @tb_fieldOff_49_0)) (And.intro (And.intro @tb_isAggT_3 @tb_cellsT_3) (And.intro @tb_callable_32 @tb_callable_53))) (And.intro (And.intro @tb_callable_33 (And.intro @tb_callable_54 @tb_fieldOff_49_1)) (And.intro (And.intro @tb_isAggT_22 @tb_cellsT_22) (And.intro @tb_callable_34 @tb_callable_55)))) (And.intro (And.intro (And.intro @tb_callable_35 (And.intro @tb_callable_56 @tb_fieldOff_49_2)) (And.intro (And.intro @tb_callable_36 @tb_callable_57) (And.intro @tb_callable_37 @tb_callable_58))) (And.intro (And.intro (And.intro @tb_callable_12 @tb_callable_38) (And.intro @tb_callable_59 @tb_convT_22_29)) (And.intro (And.intro @tb_callable_60 @tb_callable_28) (And.intro @tb_callable_62 @tb_callable_61)))))
abbrev tf19 := (And.intro (And.intro @tb_res_19 @tb_eqT_44) (And.intro @tb_fieldOff_95_0 @tb_callable_63))
abbrev tf20 := (And.intro (And.intro @tb_res_20 @tb_eqT_46) (And.intro @tb_fieldOff_97_1 (And.intro @tb_isAggT_3 @tb_cellsT_3)))
abbrev tf21 := (And.intro (And.intro @tb_res_21 @tb_eqT_44) (And.intro @tb_fieldOff_95_0 @tb_callable_64))
abbrev tf22 := (And.intro (And.intro (And.intro @tb_res_22 @tb_eqT_46) (And.intro @tb_fieldOff_97_0 @tb_isAggT_23)) (And.intro (And.intro @tb_cellsT_23 @tb_lenT_23) (And.intro @tb_fieldOff_97_1 (And.intro @tb_isAggT_3 @tb_cellsT_3))))
abbrev tf23 := (And.intro (And.intro @tb_res_23 (And.intro @tb_eqT_44 @tb_callable_29)) (And.intro @tb_fieldOff_95_1 (And.intro @tb_isAggT_26 @tb_cellsT_26)))
abbrev tf24 := (And.intro (And.intro @tb_res_24 @tb_isAggT_31) (And.intro @tb_cellsT_31 (And.intro @tb_zeroT_31 @tb_fieldOff_97_3)))
abbrev tf25 := (And.intro (And.intro (And.intro @tb_res_25 @tb_callable_23) (And.intro @tb_eqT_26 (And.intro @tb_fieldOff_95_0 @tb_callable_65))) (And.intro (And.intro @tb_fieldOff_93_1 @tb_isAggT_3) (And.intro @tb_cellsT_3 (And.intro @tb_callable_60 @tb_callable_21))))
abbrev tf26 := (And.intro (And.intro (And.intro @tb_res_26 (And.intro @tb_isAggT_31 @tb_cellsT_31)) (And.intro (And.intro @tb_zeroT_31 @tb_fieldOff_97_3) (And.intro @tb_fieldOff_31_0 @tb_isAggT_29))) (And.intro (And.intro (And.intro @tb_cellsT_29 @tb_callable_66) (And.intro @tb_fieldOff_97_1 @tb_isAggT_3)) (And.intro (And.intro @tb_cellsT_3 @tb_callable_62) (And.intro @tb_callable_22 @tb_buildT_31))))
abbrev tf27 := (And.intro (And.intro (And.intro (And.intro @tb_res_27 (And.intro @tb_zeroT_49 @tb_fieldOff_49_0)) (And.intro (And.intro @tb_isAggT_3 @tb_cellsT_3) (And.intro @tb_fieldOff_49_1 @tb_isAggT_22))) (And.intro (And.intro (And.intro @tb_cellsT_22 @tb_convT_22_5) (And.intro @tb_callable_40 @tb_callable_45)) (And.intro (And.intro @tb_convT_22_64 @tb_callable_41) (And.intro @tb_callable_46 @tb_callable_49)))) (And.intro (And.intro (And.intro @tb_callable_67 (And.intro @tb_convT_22_2 @tb_callable_68)) (And.intro (And.intro @tb_callable_69 @tb_fieldOff_49_3) (And.intro @tb_isAggT_23 @tb_cellsT_23))) (And.intro (And.intro (And.intro @tb_convT_23_9 @tb_callable_70) (And.intro @tb_callable_71 @tb_callable_72)) (And.intro (And.intro @tb_callable_73 @tb_fieldOff_49_2) (And.intro @tb_callable_48 @tb_callable_74)))))
abbrev tf28 := (And.intro (And.intro @tb_res_28 (And.intro @tb_eqT_44 @tb_fieldOff_95_1)) (And.intro @tb_isAggT_26 (And.intro @tb_cellsT_26 @tb_eqT_26)))
abbrev tf29 := (And.intro @tb_res_29 @tb_ifaceT_29)
abbrev tf30 := (And.intro (And.intro @tb_res_30 (And.intro @tb_eqT_55 @tb_fieldOff_74_0)) (And.intro @tb_isAggT_23 (And.intro @tb_cellsT_23 @tb_lenT_23)))
abbrev tf31 := (And.intro (And.intro @tb_res_31 (And.intro @tb_eqT_55 @tb_fieldOff_74_0)) (And.intro @tb_isAggT_23 (And.intro @tb_cellsT_23 @tb_callable_52)))
abbrev tf32 := (And.intro (And.intro @tb_res_32 (And.intro @tb_callable_75 @tb_lenT_23)) (And.intro @tb_indexT_23 (And.intro @tb_isAggT_5 @tb_cellsT_5)))
abbrev tf33 := (And.intro (And.intro @tb_res_33 (And.intro @tb_callable_75 @tb_lenT_23)) (And.intro (And.intro @tb_indexT_23 @tb_isAggT_5) (And.intro @tb_cellsT_5 @tb_convT_5_64)))
abbrev tf34 := (And.intro @tb_res_34 @tb_callable_76)
abbrev tf35 := (And.intro @tb_res_35 (And.intro @tb_callable_76 @tb_convT_22_2))
abbrev tf36 := (And.intro @tb_res_36 (And.intro @tb_callable_77 @tb_convT_23_9))
abbrev tf37 := (And.intro @tb_res_37 (And.intro @tb_callable_77 @tb_callable_52))
abbrev tf38 := (And.intro (And.intro (And.intro (And.intro @tb_res_38 @tb_eqT_44) (And.intro @tb_fieldOff_95_1 (And.intro @tb_isAggT_26 @tb_cellsT_26))) (And.intro (And.intro @tb_eqT_26 (And.intro @tb_fieldOff_95_0 @tb_fieldOff_93_2)) (And.intro @tb_isAggT_3 (And.intro @tb_cellsT_3 @tb_callable_21)))) (And.intro (And.intro (And.intro @tb_fieldOff_93_0 @tb_isAggT_23) (And.intro @tb_cellsT_23 (And.intro @tb_lenT_23 @tb_callable_60))) (And.intro (And.intro @tb_callable_28 (And.intro @tb_fieldOff_93_1 @tb_indexT_23)) (And.intro @tb_isAggT_5 (And.intro @tb_cellsT_5 @tb_convT_5_22)))))
abbrev tf39 := (And.intro (And.intro @tb_res_39 (And.intro @tb_zeroT_29 @tb_eqT_26)) (And.intro (And.intro @tb_ifaceT_88 @tb_callable_50) (And.intro @tb_isAggT_29 @tb_cellsT_29)))
abbrev tf40 := (And.intro @tb_res_40 (And.intro @tb_bsT_23_1 @tb_callable_43))
abbrev tf41 := (And.intro (And.intro @tb_res_41 @tb_convT_64_5) (And.intro @tb_bsT_23_4 @tb_callable_43))
abbrev tf42 := (And.intro (And.intro (And.intro @tb_res_42 (And.intro @tb_buildT_105 @tb_zeroT_105)) (And.intro @tb_isAggT_105 (And.intro @tb_cellsT_105 @tb_lenT_23))) (And.intro (And.intro @tb_indexT_23 (And.intro @tb_isAggT_5 @tb_cellsT_5)) (And.intro (And.intro @tb_convT_5_64 @tb_indexT_105) (And.intro @tb_isAggT_64 @tb_cellsT_64))))
abbrev tf43 := (And.intro (And.intro (And.intro @tb_res_43 @tb_eqT_55) (And.intro @tb_fieldOff_74_0 @tb_isAggT_23)) (And.intro (And.intro @tb_cellsT_23 @tb_fieldOff_74_1) (And.intro @tb_isAggT_3 @tb_cellsT_3)))
abbrev tf44 := (And.intro (And.intro @tb_res_44 @tb_isAggT_31) (And.intro @tb_cellsT_31 (And.intro @tb_zeroT_31 @tb_buildT_31)))
abbrev tf45 := (And.intro (And.intro (And.intro @tb_res_45 @tb_fieldOff_59_0) (And.intro @tb_isAggT_23 @tb_cellsT_23)) (And.intro (And.intro @tb_bsT_23_1 @tb_fieldOff_59_1) (And.intro @tb_isAggT_3 @tb_cellsT_3)))
abbrev tf46 := (And.intro @tb_res_46 (And.intro @tb_convT_64_5 @tb_callable_45))
abbrev tf47 := (And.intro (And.intro @tb_res_47 (And.intro @tb_lenT_23 @tb_indexT_23)) (And.intro @tb_isAggT_5 (And.intro @tb_cellsT_5 @tb_convT_5_64)))
abbrev tf48 := (And.intro (And.intro (And.intro @tb_res_48 (And.intro @tb_eqT_55 @tb_fieldOff_74_1)) (And.intro (And.intro @tb_isAggT_3 @tb_cellsT_3) (And.intro @tb_fieldOff_74_0 @tb_isAggT_23))) (And.intro (And.intro @tb_cellsT_23 (And.intro @tb_bsT_23_1 @tb_lenT_23)) (And.intro (And.intro @tb_indexT_23 @tb_isAggT_5) (And.intro @tb_cellsT_5 @tb_convT_22_5))))
abbrev tf49 := (And.intro (And.intro @tb_res_49 @tb_convT_22_5) (And.intro @tb_bsT_23_1 @tb_callable_43))
abbrev tf50 := (And.intro (And.intro (And.intro @tb_res_50 (And.intro @tb_eqT_26 @tb_eqT_20)) (And.intro @tb_ifaceT_9 (And.intro @tb_callable_78 @tb_zeroT_109))) (And.intro (And.intro @tb_isAggT_109 (And.intro @tb_cellsT_109 @tb_callable_79)) (And.intro (And.intro @tb_callable_80 @tb_isAggT_112) (And.intro @tb_cellsT_112 @tb_callable_81))))
abbrev tf51 := (And.intro @tb_res_51 @tb_callable_29)
abbrev tf52 := (And.intro @tb_res_52 (And.intro @tb_eqT_23 @tb_bsT_23_0))
abbrev tf53 := (And.intro @tb_res_53 (And.intro @tb_callable_82 @tb_callable_83))
abbrev tf54 := (And.intro (And.intro @tb_res_54 @tb_callable_82) (And.intro @tb_callable_83 @tb_convT_5_64))
abbrev tf55 := (And.intro (And.intro @tb_res_55 (And.intro @tb_callable_84 @tb_fieldOff_97_1)) (And.intro @tb_isAggT_3 (And.intro @tb_cellsT_3 @tb_fieldOff_97_2)))
abbrev tf56 := (And.intro @tb_res_56 (And.intro @tb_callable_55 @tb_callable_85))
abbrev tf57 := (And.intro @tb_res_57 (And.intro @tb_callable_58 @tb_convT_23_9))
abbrev tf58 := (And.intro (And.intro (And.intro (And.intro @tb_res_58 @tb_convT_3_22) (And.intro @tb_callable_84 @tb_fieldOff_97_1)) (And.intro (And.intro @tb_isAggT_3 @tb_cellsT_3) (And.intro @tb_callable_62 (And.intro @tb_callable_61 @tb_fieldOff_97_3)))) (And.intro (And.intro (And.intro @tb_fieldOff_31_0 @tb_isAggT_29) (And.intro @tb_cellsT_29 (And.intro @tb_fieldOff_97_0 @tb_isAggT_23))) (And.intro (And.intro @tb_cellsT_23 @tb_lenT_23) (And.intro @tb_convT_22_3 (And.intro @tb_indexT_23 @tb_fieldOff_97_2)))))
abbrev tf59 := (And.intro (And.intro (And.intro (And.intro @tb_res_59 @tb_callable_86) (And.intro @tb_fieldOff_97_0 (And.intro @tb_isAggT_23 @tb_cellsT_23))) (And.intro (And.intro @tb_lenT_23 @tb_fieldOff_97_1) (And.intro @tb_isAggT_3 (And.intro @tb_cellsT_3 @tb_fieldOff_97_2)))) (And.intro (And.intro (And.intro @tb_fieldOff_97_3 @tb_fieldOff_31_0) (And.intro @tb_isAggT_29 (And.intro @tb_cellsT_29 @tb_callable_62))) (And.intro (And.intro @tb_callable_61 @tb_indexT_23) (And.intro @tb_isAggT_5 (And.intro @tb_cellsT_5 @tb_convT_5_22)))))
abbrev tf60 := (And.intro (And.intro @tb_res_60 @tb_ifaceT_29) (And.intro @tb_buildT_84 @tb_ifaceT_84))
abbrev tf61 := (And.intro (And.intro (And.intro @tb_res_61 @tb_zeroT_31) (And.intro @tb_fieldOff_97_3 @tb_fieldOff_31_0)) (And.intro (And.intro @tb_isAggT_29 @tb_cellsT_29) (And.intro @tb_isAggT_31 @tb_cellsT_31)))
abbrev tf62 := (And.intro (And.intro @tb_res_62 @tb_isAggT_31) (And.intro @tb_cellsT_31 (And.intro @tb_zeroT_31 @tb_buildT_31)))
abbrev tf63 := (And.intro (And.intro @tb_res_63 @tb_eqT_123) (And.intro @tb_fieldOff_93_1 (And.intro @tb_isAggT_3 @tb_cellsT_3)))
abbrev tf64 := (And.intro (And.intro (And.intro @tb_res_64 @tb_eqT_123) (And.intro @tb_fieldOff_93_0 @tb_isAggT_23)) (And.intro (And.intro @tb_cellsT_23 @tb_lenT_23) (And.intro @tb_fieldOff_93_1 (And.intro @tb_isAggT_3 @tb_cellsT_3))))
abbrev tf65 := (And.intro (And.intro (And.intro @tb_res_65 @tb_fieldOff_93_2) (And.intro @tb_isAggT_3 (And.intro @tb_cellsT_3 @tb_fieldOff_93_0))) (And.intro (And.intro @tb_isAggT_23 (And.intro @tb_cellsT_23 @tb_fieldOff_93_1)) (And.intro @tb_indexT_23 (And.intro @tb_isAggT_5 @tb_cellsT_5))))
abbrev tf66 := (And.intro (And.intro (And.intro @tb_res_66 (And.intro @tb_fieldOff_97_2 @tb_isAggT_3)) (And.intro @tb_cellsT_3 (And.intro @tb_fieldOff_97_0 @tb_isAggT_23))) (And.intro (And.intro @tb_cellsT_23 (And.intro @tb_fieldOff_97_1 @tb_indexT_23)) (And.intro @tb_isAggT_5 (And.intro @tb_cellsT_5 @tb_convT_5_3))))
abbrev tf67 := (And.intro @tb_res_67 (And.intro @tb_convT_22_5 @tb_callable_45))
abbrev tf68 := (And.intro @tb_res_68 (And.intro @tb_convT_2_22 @tb_callable_49))
abbrev tf69 := (And.intro @tb_res_69 (And.intro @tb_callable_87 @tb_callable_67))
abbrev tf70 := (And.intro @tb_res_70 (And.intro @tb_convT_9_23 @tb_callable_72))
abbrev tf71 := (And.intro @tb_res_71 (And.intro @tb_convT_9_23 @tb_callable_73))
abbrev tf72 := (And.intro (And.intro @tb_res_72 @tb_lenT_23) (And.intro @tb_convT_3_22 (And.intro @tb_callable_49 @tb_callable_43)))
abbrev tf73 := (And.intro (And.intro (And.intro @tb_res_73 @tb_lenT_23) (And.intro @tb_convT_3_22 @tb_callable_67)) (And.intro (And.intro @tb_indexT_23 @tb_isAggT_5) (And.intro @tb_cellsT_5 @tb_callable_45)))
abbrev tf74 := (And.intro (And.intro (And.intro @tb_res_74 (And.intro @tb_callable_86 @tb_fieldOff_59_1)) (And.intro @tb_isAggT_3 (And.intro @tb_cellsT_3 @tb_fieldOff_59_0))) (And.intro (And.intro @tb_isAggT_23 (And.intro @tb_cellsT_23 @tb_bsT_23_1)) (And.intro (And.intro @tb_lenT_23 @tb_indexT_23) (And.intro @tb_isAggT_5 @tb_cellsT_5))))
abbrev tf75 := (And.intro (And.intro (And.intro @tb_res_75 (And.intro @tb_callable_88 @tb_callable_21)) (And.intro (And.intro @tb_fieldOff_95_0 @tb_fieldOff_93_0) (And.intro @tb_isAggT_23 @tb_cellsT_23))) (And.intro (And.intro (And.intro @tb_lenT_23 @tb_callable_60) (And.intro @tb_callable_28 @tb_fieldOff_93_1)) (And.intro (And.intro @tb_isAggT_3 @tb_cellsT_3) (And.intro @tb_fieldOff_93_2 @tb_indexT_23))))
abbrev tf76 := (And.intro (And.intro (And.intro (And.intro @tb_res_76 @tb_callable_88) (And.intro @tb_fieldOff_95_0 @tb_fieldOff_93_1)) (And.intro (And.intro @tb_isAggT_3 @tb_cellsT_3) (And.intro @tb_fieldOff_93_0 @tb_isAggT_23))) (And.intro (And.intro (And.intro @tb_cellsT_23 @tb_lenT_23) (And.intro @tb_callable_60 @tb_callable_28)) (And.intro (And.intro @tb_indexT_23 @tb_isAggT_5) (And.intro @tb_cellsT_5 (And.intro @tb_convT_5_22 @tb_fieldOff_93_2)))))
abbrev tf77 := (And.intro (And.intro (And.intro (And.intro @tb_res_77 (And.intro @tb_callable_88 @tb_fieldOff_95_0)) (And.intro @tb_isAggT_93 (And.intro @tb_cellsT_93 @tb_zeroT_93))) (And.intro (And.intro @tb_convT_3_22 (And.intro @tb_callable_76 @tb_fieldOff_95_1)) (And.intro @tb_isAggT_26 (And.intro @tb_cellsT_26 @tb_eqT_26)))) (And.intro (And.intro (And.intro @tb_fieldOff_93_1 (And.intro @tb_isAggT_3 @tb_cellsT_3)) (And.intro @tb_callable_60 (And.intro @tb_callable_28 @tb_callable_21))) (And.intro (And.intro @tb_fieldOff_93_0 (And.intro @tb_isAggT_23 @tb_cellsT_23)) (And.intro @tb_lenT_23 (And.intro @tb_convT_22_3 @tb_callable_75)))))
abbrev tf81 := (And.intro (And.intro (And.intro (And.intro @tb_res_81 @tb_zeroT_109) (And.intro @tb_callable_89 @tb_isAggT_109)) (And.intro (And.intro @tb_cellsT_109 @tb_callable_90) (And.intro @tb_callable_78 @tb_callable_91))) (And.intro (And.intro (And.intro @tb_ifaceT_131 @tb_ifaceT_134) (And.intro @tb_eqT_26 @tb_ifaceT_135)) (And.intro (And.intro @tb_lenT_136 @tb_indexT_136) (And.intro @tb_isAggT_26 (And.intro @tb_cellsT_26 @tb_callable_81)))))
abbrev tf82 := (And.intro (And.intro (And.intro @tb_res_82 (And.intro @tb_fieldOff_97_3 @tb_fieldOff_31_0)) (And.intro (And.intro @tb_isAggT_29 @tb_cellsT_29) (And.intro @tb_callable_66 @tb_fieldOff_97_1))) (And.intro (And.intro (And.intro @tb_isAggT_3 @tb_cellsT_3) (And.intro @tb_callable_62 @tb_callable_61)) (And.intro (And.intro @tb_fieldOff_97_0 @tb_isAggT_23) (And.intro @tb_cellsT_23 @tb_lenT_23))))
abbrev tf83 := (And.intro (And.intro (And.intro @tb_res_83 @tb_fieldOff_97_2) (And.intro @tb_isAggT_3 (And.intro @tb_cellsT_3 @tb_fieldOff_97_1))) (And.intro (And.intro @tb_fieldOff_97_0 (And.intro @tb_isAggT_23 @tb_cellsT_23)) (And.intro @tb_indexT_23 (And.intro @tb_isAggT_5 @tb_cellsT_5))))
abbrev tf84 := (And.intro (And.intro (And.intro @tb_res_84 (And.intro @tb_callable_82 @tb_fieldOff_97_1)) (And.intro (And.intro @tb_isAggT_3 @tb_cellsT_3) (And.intro @tb_fieldOff_97_0 @tb_isAggT_23))) (And.intro (And.intro (And.intro @tb_cellsT_23 @tb_lenT_23) (And.intro @tb_callable_62 @tb_callable_61)) (And.intro (And.intro @tb_indexT_23 @tb_isAggT_5) (And.intro @tb_cellsT_5 @tb_convT_5_22))))
abbrev tf85 := (And.intro @tb_res_85 @tb_convT_22_2)
abbrev tf86 := @tb_res_86
abbrev tf87 := (And.intro @tb_res_87 @tb_convT_2_22)
abbrev tf88 := (And.intro (And.intro (And.intro @tb_res_88 (And.intro @tb_eqT_44 @tb_fieldOff_95_1)) (And.intro @tb_isAggT_26 (And.intro @tb_cellsT_26 @tb_eqT_26))) (And.intro (And.intro @tb_fieldOff_95_0 (And.intro @tb_callable_65 @tb_fieldOff_93_1)) (And.intro (And.intro @tb_isAggT_3 @tb_cellsT_3) (And.intro @tb_callable_60 @tb_callable_28))))
abbrev tf111 := (And.intro (And.intro @tb_res_111 @tb_zeroT_84) (And.intro @tb_fieldOff_84_1 (And.intro @tb_isAggT_26 @tb_cellsT_26)))
abbrev tf113 := (And.intro (And.intro @tb_res_113 @tb_zeroT_86) (And.intro @tb_fieldOff_86_1 (And.intro @tb_isAggT_26 @tb_cellsT_26)))
abbrev tf132 := (And.intro (And.intro @tb_res_132 @tb_ifaceT_165) (And.intro @tb_callable_89 (And.intro @tb_isAggT_112 @tb_cellsT_112)))
end Go.Proofs.YtcjlhfmjcioeeaaDoor
