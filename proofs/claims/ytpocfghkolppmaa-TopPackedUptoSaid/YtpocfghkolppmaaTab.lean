/- Closed facts on the tables of the program, each by the kernel: written by a program. -/
import Derived.Test.YtpocfghkolppmaaDen
import Derived.Test.YtpocfghkolppmaaProg
import Derived.KernelRfl
set_option maxRecDepth 100000
namespace Go.Proofs.Ytpocfghkolppmaa
open Go
theorem mixed : Try.prog.follows .mixedOrders = true := by kernel_rfl
theorem tb_bsT_123_4 : bsT Try.prog 123 4 = some (126, 5, #[.int .i64 0, .int .i64 0, .int .i64 0, .int .i64 0, .int .i64 0, .int .i64 0, .int .i64 0, .int .i64 0, .int .i64 0, .int .i64 0, .int .i64 0, .int .i64 0, .int .i64 0, .int .i64 0, .int .i64 0, .int .i64 0, .int .i64 0, .int .i64 0, .int .i64 0, .int .i64 0]) := by kernel_rfl
theorem tb_bsT_22_0 : bsT Try.prog 22 0 = some (37, 3, #[]) := by kernel_rfl
theorem tb_bsT_22_1 : bsT Try.prog 22 1 = some (37, 3, #[.int .i64 0, .int .u8 0, .int .i64 0]) := by kernel_rfl
theorem tb_bsT_25_1 : bsT Try.prog 25 1 = some (57, 10, #[.string ByteArray.empty, .slice none 0 0, .string ByteArray.empty, .int .i64 0, .bool false, .bool false, .int .u8 0, .int .i64 0, .int .u8 0, .int .i64 0]) := by kernel_rfl
theorem tb_bsT_28_0 : bsT Try.prog 28 0 = some (5, 1, #[]) := by kernel_rfl
theorem tb_bsT_28_1 : bsT Try.prog 28 1 = some (5, 1, #[.int .u8 0]) := by kernel_rfl
theorem tb_bsT_47_1 : bsT Try.prog 47 1 = some (2, 1, #[.int .i64 0]) := by kernel_rfl
theorem tb_bsT_61_1 : bsT Try.prog 61 1 = some (35, 2, #[.int .u8 0, .int .i64 0]) := by kernel_rfl
theorem tb_buildT_126 : buildT Try.prog 126 = some (#[.int .i64 0, .int .i64 0, .int .i64 0, .int .i64 0, .int .i64 0], [(0, 1), (1, 1), (2, 1), (3, 1), (4, 1)]) := by kernel_rfl
theorem tb_buildT_131 : buildT Try.prog 131 = some (#[.int .i64 0, .nilIface], [(0, 1), (1, 1)]) := by kernel_rfl
theorem tb_buildT_35 : buildT Try.prog 35 = some (#[.int .u8 0, .int .i64 0], [(0, 1), (1, 1)]) := by kernel_rfl
theorem tb_buildT_37 : buildT Try.prog 37 = some (#[.int .i64 0, .int .u8 0, .int .i64 0], [(0, 1), (1, 2)]) := by kernel_rfl
theorem tb_buildT_44 : buildT Try.prog 44 = some (#[.slice none 0 0], [(0, 1)]) := by kernel_rfl
theorem tb_buildT_46 : buildT Try.prog 46 = some (#[.slice none 0 0], [(0, 1)]) := by kernel_rfl
theorem tb_buildT_57 : buildT Try.prog 57 = some (#[.string ByteArray.empty, .slice none 0 0, .string ByteArray.empty, .int .i64 0, .bool false, .bool false, .int .u8 0, .int .i64 0, .int .u8 0, .int .i64 0], [(0, 3), (3, 1), (4, 1), (5, 1), (6, 2), (8, 2)]) := by kernel_rfl
theorem tb_buildT_96 : buildT Try.prog 96 = some (#[.slice none 0 0, .int .i64 0, .int .i64 0], [(0, 1), (1, 1), (2, 1)]) := by kernel_rfl
theorem tb_buildT_98 : buildT Try.prog 98 = some (#[.slice none 0 0, .int .i64 0, .int .i64 0, .nilIface], [(0, 3), (3, 1)]) := by kernel_rfl
theorem tb_callable_1 : callable Try.prog 1 = false := by kernel_rfl
theorem tb_callable_10 : callable Try.prog 10 = true := by kernel_rfl
theorem tb_callable_11 : callable Try.prog 11 = true := by kernel_rfl
theorem tb_callable_12 : callable Try.prog 12 = true := by kernel_rfl
theorem tb_callable_13 : callable Try.prog 13 = true := by kernel_rfl
theorem tb_callable_14 : callable Try.prog 14 = true := by kernel_rfl
theorem tb_callable_15 : callable Try.prog 15 = true := by kernel_rfl
theorem tb_callable_16 : callable Try.prog 16 = true := by kernel_rfl
theorem tb_callable_17 : callable Try.prog 17 = true := by kernel_rfl
theorem tb_callable_18 : callable Try.prog 18 = true := by kernel_rfl
theorem tb_callable_19 : callable Try.prog 19 = true := by kernel_rfl
theorem tb_callable_2 : callable Try.prog 2 = true := by kernel_rfl
theorem tb_callable_20 : callable Try.prog 20 = true := by kernel_rfl
theorem tb_callable_21 : callable Try.prog 21 = true := by kernel_rfl
theorem tb_callable_22 : callable Try.prog 22 = true := by kernel_rfl
theorem tb_callable_23 : callable Try.prog 23 = true := by kernel_rfl
theorem tb_callable_24 : callable Try.prog 24 = true := by kernel_rfl
theorem tb_callable_25 : callable Try.prog 25 = true := by kernel_rfl
theorem tb_callable_26 : callable Try.prog 26 = true := by kernel_rfl
theorem tb_callable_27 : callable Try.prog 27 = true := by kernel_rfl
theorem tb_callable_28 : callable Try.prog 28 = true := by kernel_rfl
theorem tb_callable_29 : callable Try.prog 29 = true := by kernel_rfl
theorem tb_callable_3 : callable Try.prog 3 = true := by kernel_rfl
theorem tb_callable_30 : callable Try.prog 30 = true := by kernel_rfl
theorem tb_callable_31 : callable Try.prog 31 = true := by kernel_rfl
theorem tb_callable_32 : callable Try.prog 32 = true := by kernel_rfl
theorem tb_callable_33 : callable Try.prog 33 = true := by kernel_rfl
theorem tb_callable_34 : callable Try.prog 34 = true := by kernel_rfl
theorem tb_callable_35 : callable Try.prog 35 = true := by kernel_rfl
theorem tb_callable_36 : callable Try.prog 36 = true := by kernel_rfl
theorem tb_callable_37 : callable Try.prog 37 = true := by kernel_rfl
theorem tb_callable_38 : callable Try.prog 38 = true := by kernel_rfl
theorem tb_callable_39 : callable Try.prog 39 = true := by kernel_rfl
theorem tb_callable_4 : callable Try.prog 4 = true := by kernel_rfl
theorem tb_callable_40 : callable Try.prog 40 = true := by kernel_rfl
theorem tb_callable_41 : callable Try.prog 41 = true := by kernel_rfl
theorem tb_callable_42 : callable Try.prog 42 = true := by kernel_rfl
theorem tb_callable_43 : callable Try.prog 43 = true := by kernel_rfl
theorem tb_callable_44 : callable Try.prog 44 = true := by kernel_rfl
theorem tb_callable_45 : callable Try.prog 45 = true := by kernel_rfl
theorem tb_callable_46 : callable Try.prog 46 = true := by kernel_rfl
theorem tb_callable_47 : callable Try.prog 47 = true := by kernel_rfl
theorem tb_callable_48 : callable Try.prog 48 = true := by kernel_rfl
theorem tb_callable_49 : callable Try.prog 49 = true := by kernel_rfl
theorem tb_callable_5 : callable Try.prog 5 = true := by kernel_rfl
theorem tb_callable_50 : callable Try.prog 50 = true := by kernel_rfl
theorem tb_callable_51 : callable Try.prog 51 = true := by kernel_rfl
theorem tb_callable_52 : callable Try.prog 52 = true := by kernel_rfl
theorem tb_callable_53 : callable Try.prog 53 = false := by kernel_rfl
theorem tb_callable_54 : callable Try.prog 54 = true := by kernel_rfl
theorem tb_callable_55 : callable Try.prog 55 = true := by kernel_rfl
theorem tb_callable_56 : callable Try.prog 56 = true := by kernel_rfl
theorem tb_callable_57 : callable Try.prog 57 = true := by kernel_rfl
theorem tb_callable_58 : callable Try.prog 58 = true := by kernel_rfl
theorem tb_callable_59 : callable Try.prog 59 = true := by kernel_rfl
theorem tb_callable_6 : callable Try.prog 6 = true := by kernel_rfl
theorem tb_callable_60 : callable Try.prog 60 = true := by kernel_rfl
theorem tb_callable_61 : callable Try.prog 61 = true := by kernel_rfl
theorem tb_callable_62 : callable Try.prog 62 = true := by kernel_rfl
theorem tb_callable_63 : callable Try.prog 63 = true := by kernel_rfl
theorem tb_callable_64 : callable Try.prog 64 = true := by kernel_rfl
theorem tb_callable_65 : callable Try.prog 65 = true := by kernel_rfl
theorem tb_callable_66 : callable Try.prog 66 = true := by kernel_rfl
theorem tb_callable_67 : callable Try.prog 67 = true := by kernel_rfl
theorem tb_callable_68 : callable Try.prog 68 = true := by kernel_rfl
theorem tb_callable_69 : callable Try.prog 69 = true := by kernel_rfl
theorem tb_callable_7 : callable Try.prog 7 = true := by kernel_rfl
theorem tb_callable_70 : callable Try.prog 70 = true := by kernel_rfl
theorem tb_callable_71 : callable Try.prog 71 = true := by kernel_rfl
theorem tb_callable_72 : callable Try.prog 72 = true := by kernel_rfl
theorem tb_callable_73 : callable Try.prog 73 = true := by kernel_rfl
theorem tb_callable_74 : callable Try.prog 74 = true := by kernel_rfl
theorem tb_callable_75 : callable Try.prog 75 = true := by kernel_rfl
theorem tb_callable_76 : callable Try.prog 76 = true := by kernel_rfl
theorem tb_callable_77 : callable Try.prog 77 = true := by kernel_rfl
theorem tb_callable_78 : callable Try.prog 78 = true := by kernel_rfl
theorem tb_callable_79 : callable Try.prog 79 = true := by kernel_rfl
theorem tb_callable_8 : callable Try.prog 8 = true := by kernel_rfl
theorem tb_callable_80 : callable Try.prog 80 = true := by kernel_rfl
theorem tb_callable_9 : callable Try.prog 9 = true := by kernel_rfl
theorem tb_cellsT_126 : cellsT Try.prog 126 = some 5 := by kernel_rfl
theorem tb_cellsT_134 : cellsT Try.prog 134 = some 1 := by kernel_rfl
theorem tb_cellsT_2 : cellsT Try.prog 2 = some 1 := by kernel_rfl
theorem tb_cellsT_22 : cellsT Try.prog 22 = some 1 := by kernel_rfl
theorem tb_cellsT_28 : cellsT Try.prog 28 = some 1 := by kernel_rfl
theorem tb_cellsT_3 : cellsT Try.prog 3 = some 1 := by kernel_rfl
theorem tb_cellsT_30 : cellsT Try.prog 30 = some 1 := by kernel_rfl
theorem tb_cellsT_33 : cellsT Try.prog 33 = some 1 := by kernel_rfl
theorem tb_cellsT_35 : cellsT Try.prog 35 = some 2 := by kernel_rfl
theorem tb_cellsT_37 : cellsT Try.prog 37 = some 3 := by kernel_rfl
theorem tb_cellsT_5 : cellsT Try.prog 5 = some 1 := by kernel_rfl
theorem tb_cellsT_96 : cellsT Try.prog 96 = some 3 := by kernel_rfl
theorem tb_convT_122_5 : convT Try.prog 122 5 = .toInt .u8 := by kernel_rfl
theorem tb_convT_28_9 : convT Try.prog 28 9 = .strStr := by kernel_rfl
theorem tb_convT_2_85 : convT Try.prog 2 85 = .toInt .u64 := by kernel_rfl
theorem tb_convT_3_134 : convT Try.prog 3 134 = .toInt .u64 := by kernel_rfl
theorem tb_convT_3_83 : convT Try.prog 3 83 = .toInt .u64 := by kernel_rfl
theorem tb_convT_3_85 : convT Try.prog 3 85 = .toInt .u64 := by kernel_rfl
theorem tb_convT_5_3 : convT Try.prog 5 3 = .toInt .i64 := by kernel_rfl
theorem tb_convT_5_85 : convT Try.prog 5 85 = .toInt .u64 := by kernel_rfl
theorem tb_convT_83_122 : convT Try.prog 83 122 = .toInt .u32 := by kernel_rfl
theorem tb_convT_83_3 : convT Try.prog 83 3 = .toInt .i64 := by kernel_rfl
theorem tb_convT_85_2 : convT Try.prog 85 2 = .toInt .i64 := by kernel_rfl
theorem tb_convT_85_3 : convT Try.prog 85 3 = .toInt .i64 := by kernel_rfl
theorem tb_convT_85_5 : convT Try.prog 85 5 = .toInt .u8 := by kernel_rfl
theorem tb_eqT_129 : eqT Try.prog 129 = .ptr := by kernel_rfl
theorem tb_eqT_22 : eqT Try.prog 22 = .sl := by kernel_rfl
theorem tb_eqT_23 : eqT Try.prog 23 = .ptr := by kernel_rfl
theorem tb_eqT_28 : eqT Try.prog 28 = .sl := by kernel_rfl
theorem tb_eqT_30 : eqT Try.prog 30 = .iface := by kernel_rfl
theorem tb_eqT_35 : eqT Try.prog 35 = .struct := by kernel_rfl
theorem tb_eqT_37 : eqT Try.prog 37 = .struct := by kernel_rfl
theorem tb_eqT_68 : eqT Try.prog 68 = .ptr := by kernel_rfl
theorem tb_eqT_88 : eqT Try.prog 88 = .ptr := by kernel_rfl
theorem tb_fieldOff_126_0 : fieldOff Try.prog 126 0 = some 0 := by kernel_rfl
theorem tb_fieldOff_126_1 : fieldOff Try.prog 126 1 = some 1 := by kernel_rfl
theorem tb_fieldOff_126_2 : fieldOff Try.prog 126 2 = some 2 := by kernel_rfl
theorem tb_fieldOff_126_3 : fieldOff Try.prog 126 3 = some 3 := by kernel_rfl
theorem tb_fieldOff_126_4 : fieldOff Try.prog 126 4 = some 4 := by kernel_rfl
theorem tb_fieldOff_35_0 : fieldOff Try.prog 35 0 = some 0 := by kernel_rfl
theorem tb_fieldOff_35_1 : fieldOff Try.prog 35 1 = some 1 := by kernel_rfl
theorem tb_fieldOff_37_0 : fieldOff Try.prog 37 0 = some 0 := by kernel_rfl
theorem tb_fieldOff_37_1 : fieldOff Try.prog 37 1 = some 1 := by kernel_rfl
theorem tb_fieldOff_44_0 : fieldOff Try.prog 44 0 = some 0 := by kernel_rfl
theorem tb_fieldOff_46_0 : fieldOff Try.prog 46 0 = some 0 := by kernel_rfl
theorem tb_fieldOff_65_0 : fieldOff Try.prog 65 0 = some 0 := by kernel_rfl
theorem tb_fieldOff_65_1 : fieldOff Try.prog 65 1 = some 1 := by kernel_rfl
theorem tb_fieldOff_96_0 : fieldOff Try.prog 96 0 = some 0 := by kernel_rfl
theorem tb_fieldOff_96_1 : fieldOff Try.prog 96 1 = some 1 := by kernel_rfl
theorem tb_fieldOff_96_2 : fieldOff Try.prog 96 2 = some 2 := by kernel_rfl
theorem tb_fieldOff_98_0 : fieldOff Try.prog 98 0 = some 0 := by kernel_rfl
theorem tb_fieldOff_98_1 : fieldOff Try.prog 98 1 = some 3 := by kernel_rfl
theorem tb_ifaceT_131 : ifaceT Try.prog 131 = some false := by kernel_rfl
theorem tb_ifaceT_77 : ifaceT Try.prog 77 = some false := by kernel_rfl
theorem tb_indexT_123 : indexT Try.prog 123 = some (.sl 5) := by kernel_rfl
theorem tb_indexT_22 : indexT Try.prog 22 = some (.sl 3) := by kernel_rfl
theorem tb_indexT_28 : indexT Try.prog 28 = some (.sl 1) := by kernel_rfl
theorem tb_indexT_47 : indexT Try.prog 47 = some (.sl 1) := by kernel_rfl
theorem tb_indexT_61 : indexT Try.prog 61 = some (.sl 2) := by kernel_rfl
theorem tb_indexT_9 : indexT Try.prog 9 = some (.str) := by kernel_rfl
theorem tb_isAggT_126 : isAggT Try.prog 126 = some true := by kernel_rfl
theorem tb_isAggT_134 : isAggT Try.prog 134 = some false := by kernel_rfl
theorem tb_isAggT_2 : isAggT Try.prog 2 = some false := by kernel_rfl
theorem tb_isAggT_22 : isAggT Try.prog 22 = some false := by kernel_rfl
theorem tb_isAggT_28 : isAggT Try.prog 28 = some false := by kernel_rfl
theorem tb_isAggT_3 : isAggT Try.prog 3 = some false := by kernel_rfl
theorem tb_isAggT_30 : isAggT Try.prog 30 = some false := by kernel_rfl
theorem tb_isAggT_33 : isAggT Try.prog 33 = some false := by kernel_rfl
theorem tb_isAggT_35 : isAggT Try.prog 35 = some true := by kernel_rfl
theorem tb_isAggT_37 : isAggT Try.prog 37 = some true := by kernel_rfl
theorem tb_isAggT_5 : isAggT Try.prog 5 = some false := by kernel_rfl
theorem tb_isAggT_96 : isAggT Try.prog 96 = some true := by kernel_rfl
theorem tb_lenT_123 : lenT Try.prog 123 = .sl := by kernel_rfl
theorem tb_lenT_22 : lenT Try.prog 22 = .sl := by kernel_rfl
theorem tb_lenT_28 : lenT Try.prog 28 = .sl := by kernel_rfl
theorem tb_lenT_47 : lenT Try.prog 47 = .sl := by kernel_rfl
theorem tb_lenT_61 : lenT Try.prog 61 = .sl := by kernel_rfl
theorem tb_res_10 : Try.f10.results.toList = [.tmp 2] := by kernel_rfl
theorem tb_res_11 : Try.f11.results.toList = [.cell 6 35, .tmp 7] := by kernel_rfl
theorem tb_res_12 : Try.f12.results.toList = [] := by kernel_rfl
theorem tb_res_13 : Try.f13.results.toList = [.tmp 2] := by kernel_rfl
theorem tb_res_14 : Try.f14.results.toList = [.cell 4 35, .tmp 5] := by kernel_rfl
theorem tb_res_15 : Try.f15.results.toList = [.tmp 6, .tmp 7] := by kernel_rfl
theorem tb_res_16 : Try.f16.results.toList = [.tmp 2] := by kernel_rfl
theorem tb_res_17 : Try.f17.results.toList = [.tmp 2, .tmp 3] := by kernel_rfl
theorem tb_res_18 : Try.f18.results.toList = [.tmp 2, .tmp 3] := by kernel_rfl
theorem tb_res_19 : Try.f19.results.toList = [] := by kernel_rfl
theorem tb_res_2 : Try.f2.results.toList = [] := by kernel_rfl
theorem tb_res_20 : Try.f20.results.toList = [.tmp 2] := by kernel_rfl
theorem tb_res_21 : Try.f21.results.toList = [.tmp 2] := by kernel_rfl
theorem tb_res_22 : Try.f22.results.toList = [.tmp 4] := by kernel_rfl
theorem tb_res_23 : Try.f23.results.toList = [.tmp 2] := by kernel_rfl
theorem tb_res_24 : Try.f24.results.toList = [.tmp 2, .tmp 3] := by kernel_rfl
theorem tb_res_25 : Try.f25.results.toList = [.tmp 2, .tmp 3] := by kernel_rfl
theorem tb_res_26 : Try.f26.results.toList = [.tmp 2] := by kernel_rfl
theorem tb_res_27 : Try.f27.results.toList = [.tmp 4, .tmp 5] := by kernel_rfl
theorem tb_res_28 : Try.f28.results.toList = [.tmp 6] := by kernel_rfl
theorem tb_res_29 : Try.f29.results.toList = [] := by kernel_rfl
theorem tb_res_3 : Try.f3.results.toList = [.tmp 2] := by kernel_rfl
theorem tb_res_30 : Try.f30.results.toList = [.tmp 2] := by kernel_rfl
theorem tb_res_31 : Try.f31.results.toList = [] := by kernel_rfl
theorem tb_res_32 : Try.f32.results.toList = [] := by kernel_rfl
theorem tb_res_33 : Try.f33.results.toList = [] := by kernel_rfl
theorem tb_res_34 : Try.f34.results.toList = [.tmp 2] := by kernel_rfl
theorem tb_res_35 : Try.f35.results.toList = [] := by kernel_rfl
theorem tb_res_36 : Try.f36.results.toList = [.tmp 2] := by kernel_rfl
theorem tb_res_37 : Try.f37.results.toList = [.tmp 2] := by kernel_rfl
theorem tb_res_38 : Try.f38.results.toList = [] := by kernel_rfl
theorem tb_res_39 : Try.f39.results.toList = [.tmp 2] := by kernel_rfl
theorem tb_res_4 : Try.f4.results.toList = [.tmp 0] := by kernel_rfl
theorem tb_res_40 : Try.f40.results.toList = [.tmp 4] := by kernel_rfl
theorem tb_res_41 : Try.f41.results.toList = [.tmp 2] := by kernel_rfl
theorem tb_res_42 : Try.f42.results.toList = [.tmp 2] := by kernel_rfl
theorem tb_res_43 : Try.f43.results.toList = [.tmp 4] := by kernel_rfl
theorem tb_res_44 : Try.f44.results.toList = [.tmp 2] := by kernel_rfl
theorem tb_res_45 : Try.f45.results.toList = [.tmp 4] := by kernel_rfl
theorem tb_res_46 : Try.f46.results.toList = [.tmp 2] := by kernel_rfl
theorem tb_res_47 : Try.f47.results.toList = [.tmp 2] := by kernel_rfl
theorem tb_res_48 : Try.f48.results.toList = [.tmp 4] := by kernel_rfl
theorem tb_res_49 : Try.f49.results.toList = [.cell 6 35] := by kernel_rfl
theorem tb_res_5 : Try.f5.results.toList = [.tmp 4] := by kernel_rfl
theorem tb_res_50 : Try.f50.results.toList = [.tmp 6, .tmp 7] := by kernel_rfl
theorem tb_res_51 : Try.f51.results.toList = [.tmp 4] := by kernel_rfl
theorem tb_res_52 : Try.f52.results.toList = [.tmp 4] := by kernel_rfl
theorem tb_res_54 : Try.f54.results.toList = [] := by kernel_rfl
theorem tb_res_55 : Try.f55.results.toList = [] := by kernel_rfl
theorem tb_res_56 : Try.f56.results.toList = [] := by kernel_rfl
theorem tb_res_57 : Try.f57.results.toList = [] := by kernel_rfl
theorem tb_res_58 : Try.f58.results.toList = [.tmp 6, .tmp 7] := by kernel_rfl
theorem tb_res_59 : Try.f59.results.toList = [] := by kernel_rfl
theorem tb_res_6 : Try.f6.results.toList = [.tmp 6] := by kernel_rfl
theorem tb_res_60 : Try.f60.results.toList = [.tmp 6] := by kernel_rfl
theorem tb_res_61 : Try.f61.results.toList = [.tmp 4] := by kernel_rfl
theorem tb_res_62 : Try.f62.results.toList = [.tmp 8] := by kernel_rfl
theorem tb_res_63 : Try.f63.results.toList = [.tmp 8, .tmp 9] := by kernel_rfl
theorem tb_res_64 : Try.f64.results.toList = [.tmp 2] := by kernel_rfl
theorem tb_res_65 : Try.f65.results.toList = [.tmp 0] := by kernel_rfl
theorem tb_res_66 : Try.f66.results.toList = [.tmp 2] := by kernel_rfl
theorem tb_res_67 : Try.f67.results.toList = [.tmp 6] := by kernel_rfl
theorem tb_res_68 : Try.f68.results.toList = [] := by kernel_rfl
theorem tb_res_69 : Try.f69.results.toList = [.tmp 4] := by kernel_rfl
theorem tb_res_7 : Try.f7.results.toList = [.tmp 2, .tmp 3] := by kernel_rfl
theorem tb_res_70 : Try.f70.results.toList = [.tmp 2] := by kernel_rfl
theorem tb_res_71 : Try.f71.results.toList = [.tmp 4] := by kernel_rfl
theorem tb_res_72 : Try.f72.results.toList = [.tmp 2] := by kernel_rfl
theorem tb_res_73 : Try.f73.results.toList = [] := by kernel_rfl
theorem tb_res_74 : Try.f74.results.toList = [] := by kernel_rfl
theorem tb_res_75 : Try.f75.results.toList = [.tmp 2] := by kernel_rfl
theorem tb_res_76 : Try.f76.results.toList = [.tmp 2] := by kernel_rfl
theorem tb_res_77 : Try.f77.results.toList = [.tmp 6] := by kernel_rfl
theorem tb_res_78 : Try.f78.results.toList = [.tmp 10] := by kernel_rfl
theorem tb_res_79 : Try.f79.results.toList = [] := by kernel_rfl
theorem tb_res_8 : Try.f8.results.toList = [.tmp 2, .tmp 3] := by kernel_rfl
theorem tb_res_80 : Try.f80.results.toList = [.tmp 8, .tmp 9] := by kernel_rfl
theorem tb_res_9 : Try.f9.results.toList = [.tmp 2, .tmp 3, .tmp 4, .tmp 5] := by kernel_rfl
theorem tb_zeroT_126 : zeroT Try.prog 126 = some (.agg #[.int .i64 0, .int .i64 0, .int .i64 0, .int .i64 0, .int .i64 0]) := by kernel_rfl
theorem tb_zeroT_134 : zeroT Try.prog 134 = some (.int .u64 0) := by kernel_rfl
theorem tb_zeroT_3 : zeroT Try.prog 3 = some (.int .i64 0) := by kernel_rfl
theorem tb_zeroT_35 : zeroT Try.prog 35 = some (.agg #[.int .u8 0, .int .i64 0]) := by kernel_rfl
theorem tb_zeroT_37 : zeroT Try.prog 37 = some (.agg #[.int .i64 0, .int .u8 0, .int .i64 0]) := by kernel_rfl
theorem tb_zeroT_46 : zeroT Try.prog 46 = some (.agg #[.slice none 0 0]) := by kernel_rfl
theorem tb_zeroT_65 : zeroT Try.prog 65 = some (.agg #[.slice none 0 0, .int .i64 0]) := by kernel_rfl
theorem tb_zeroT_96 : zeroT Try.prog 96 = some (.agg #[.slice none 0 0, .int .i64 0, .int .i64 0]) := by kernel_rfl
theorem tb_zeroT_98 : zeroT Try.prog 98 = some (.agg #[.slice none 0 0, .int .i64 0, .int .i64 0, .nilIface]) := by kernel_rfl
theorem eqAgg_of {P : Program} {t : TypeId} {x y : Value} {r : Option Bool} (h : P.eqGuardType P.depth t = false) (hd : eqDeep P 8 t x y = r) : eqAgg P t x y = r := by unfold eqAgg; rw [h]; exact hd
theorem eqDeep_struct {P : Program} {n : Nat} {t : TypeId} {fs : Array Field} {xs ys : Array Value} {r : Option Bool} (hu : P.underlying t = some (.struct fs)) (hh : P.stoodInHeld t = false) (hf : eqFs P (eqDeep P n) xs ys fs.toList = r) : eqDeep P (n + 1) t (.agg xs) (.agg ys) = r := by unfold eqDeep; rw [hu]; show (if P.stoodInHeld t = true then _ else _) = _; rw [if_neg (by rw [hh]; decide)]; exact hf
theorem eqDeep_int {P : Program} {n : Nat} {t : TypeId} {k k' : IntKind} {a b : Int} (hu : P.underlying t = some (.int k')) : eqDeep P (n + 1) t (.int k a) (.int k b) = some (decide (a = b)) := by unfold eqDeep; rw [hu]; exact if_pos rfl
theorem eqDeep_string {P : Program} {n : Nat} {t : TypeId} {a b : ByteArray} (hu : P.underlying t = some .string) : eqDeep P (n + 1) t (.string a) (.string b) = some (decide (a.toList = b.toList)) := by unfold eqDeep; rw [hu]; show some (a.toList == b.toList) = _; by_cases h : a.toList = b.toList <;> simp [h]
theorem eqFs_nil {P : Program} {r : TypeId → Value → Value → Option Bool} {xs ys : Array Value} : eqFs P r xs ys [] = some (decide True) := rfl
theorem eqFs_cons {P : Program} {r : TypeId → Value → Value → Option Bool} {xs ys : Array Value} {f : Field} {fs : List Field} {a b : Value} {c d : Prop} [Decidable c] [Decidable d] (hn : f.name ≠ "_") (ha : partP P f.type xs f.offset = some a) (hb : partP P f.type ys f.offset = some b)
    (hr : r f.type a b = some (decide c)) (ht : eqFs P r xs ys fs = some (decide d)) : eqFs P r xs ys (f :: fs) = some (decide (c ∧ d)) := by
  unfold eqFs
  rw [if_neg hn, ha, hb]
  show (match r f.type a b with | some true => _ | some false => _ | none => _) = _
  rw [hr]
  by_cases h : c
  · rw [decide_eq_true h, ht]; simp [h]
  · rw [decide_eq_false h]; simp [h]
theorem eqPart_leaf {P : Program} {t : TypeId} {cs : Array Value} {o n : Nat} {v : Value} (h : isAggT P t = some false) (hc : cellsT P t = some n) (hv : cs[o]? = some v) : partP P t cs o = some v := by unfold partP; rw [h, hc]; exact hv
theorem eqPart_agg {P : Program} {t : TypeId} {cs : Array Value} {o n : Nat} {x : Array Value} (h : isAggT P t = some true) (hc : cellsT P t = some n) (hv : cs.extract o (o + n) = x) : partP P t cs o = some (.agg x) := by unfold partP; rw [h, hc, ← hv]
theorem tb_eqU_37 : Try.prog.underlying 37 = some (.struct #[⟨"Time", 2, 0, false, "", "", 0⟩, ⟨"Value", 35, 1, false, "", "", 8⟩]) := by kernel_rfl
theorem tb_eqH_37 : Try.prog.stoodInHeld 37 = false := by kernel_rfl
theorem tb_eqA_2 : isAggT Try.prog 2 = some false := by kernel_rfl
theorem tb_eqC_2 : cellsT Try.prog 2 = some 1 := by kernel_rfl
theorem tb_eqU_2 : Try.prog.underlying 2 = some (.int .i64) := by kernel_rfl
theorem tb_eqA_35 : isAggT Try.prog 35 = some true := by kernel_rfl
theorem tb_eqC_35 : cellsT Try.prog 35 = some 2 := by kernel_rfl
theorem tb_eqU_35 : Try.prog.underlying 35 = some (.struct #[⟨"Kind", 33, 0, false, "", "", 0⟩, ⟨"N", 2, 1, false, "", "", 8⟩]) := by kernel_rfl
theorem tb_eqH_35 : Try.prog.stoodInHeld 35 = false := by kernel_rfl
theorem tb_eqA_33 : isAggT Try.prog 33 = some false := by kernel_rfl
theorem tb_eqC_33 : cellsT Try.prog 33 = some 1 := by kernel_rfl
theorem tb_eqU_33 : Try.prog.underlying 33 = some (.int .u8) := by kernel_rfl
theorem tb_eqG_37 : Try.prog.eqGuardType Try.prog.depth 37 = false := by kernel_rfl
theorem tb_eqG_35 : Try.prog.eqGuardType Try.prog.depth 35 = false := by kernel_rfl
theorem tb_eqS_37 (a0 b0 : Int) (a1 b1 : Int) (a2 b2 : Int) : (eqAgg Try.prog 37 (.agg #[.int .i64 a0, .int .u8 a1, .int .i64 a2]) (.agg #[.int .i64 b0, .int .u8 b1, .int .i64 b2])) = some (decide (a0 = b0 ∧ a1 = b1 ∧ a2 = b2)) := (eqAgg_of tb_eqG_37 (eqDeep_struct tb_eqU_37 tb_eqH_37 (eqFs_cons (by decide) (eqPart_leaf tb_eqA_2 tb_eqC_2 rfl) (eqPart_leaf tb_eqA_2 tb_eqC_2 rfl) (eqDeep_int tb_eqU_2) (eqFs_cons (by decide) (eqPart_agg tb_eqA_35 tb_eqC_35 rfl) (eqPart_agg tb_eqA_35 tb_eqC_35 rfl) (eqDeep_struct tb_eqU_35 tb_eqH_35 (eqFs_cons (by decide) (eqPart_leaf tb_eqA_33 tb_eqC_33 rfl) (eqPart_leaf tb_eqA_33 tb_eqC_33 rfl) (eqDeep_int tb_eqU_33) (eqFs_cons (by decide) (eqPart_leaf tb_eqA_2 tb_eqC_2 rfl) (eqPart_leaf tb_eqA_2 tb_eqC_2 rfl) (eqDeep_int tb_eqU_2) eqFs_nil))) eqFs_nil)))).trans (by simp)
theorem tb_eqS_35 (a0 b0 : Int) (a1 b1 : Int) : (eqAgg Try.prog 35 (.agg #[.int .u8 a0, .int .i64 a1]) (.agg #[.int .u8 b0, .int .i64 b1])) = some (decide (a0 = b0 ∧ a1 = b1)) := (eqAgg_of tb_eqG_35 (eqDeep_struct tb_eqU_35 tb_eqH_35 (eqFs_cons (by decide) (eqPart_leaf tb_eqA_33 tb_eqC_33 rfl) (eqPart_leaf tb_eqA_33 tb_eqC_33 rfl) (eqDeep_int tb_eqU_33) (eqFs_cons (by decide) (eqPart_leaf tb_eqA_2 tb_eqC_2 rfl) (eqPart_leaf tb_eqA_2 tb_eqC_2 rfl) (eqDeep_int tb_eqU_2) eqFs_nil)))).trans (by simp)
/- all facts that one function's walk wants. -/
abbrev tf2 := (And.intro @tb_res_2 @tb_callable_1)
abbrev tf3 := (And.intro (And.intro (And.intro (And.intro @tb_res_3 (And.intro @tb_callable_4 @tb_callable_5)) (And.intro (And.intro @tb_callable_6 @tb_callable_7) (And.intro @tb_eqT_30 @tb_lenT_22))) (And.intro (And.intro @tb_indexT_22 (And.intro @tb_fieldOff_37_1 @tb_isAggT_35)) (And.intro (And.intro @tb_cellsT_35 @tb_zeroT_35) (And.intro @tb_fieldOff_35_0 @tb_isAggT_33)))) (And.intro (And.intro (And.intro @tb_cellsT_33 (And.intro @tb_fieldOff_35_1 @tb_isAggT_2)) (And.intro (And.intro @tb_cellsT_2 @tb_callable_8) (And.intro @tb_callable_9 @tb_isAggT_37))) (And.intro (And.intro @tb_cellsT_37 (And.intro @tb_eqT_37 @tb_eqS_37)) (And.intro (And.intro @tb_fieldOff_37_0 @tb_buildT_37) (And.intro @tb_bsT_22_1 @tb_lenT_28)))))
abbrev tf4 := (And.intro @tb_res_4 (And.intro @tb_buildT_46 @tb_zeroT_46))
abbrev tf5 := (And.intro (And.intro (And.intro (And.intro @tb_res_5 (And.intro @tb_eqT_23 @tb_callable_10)) (And.intro @tb_lenT_22 (And.intro @tb_indexT_22 @tb_isAggT_37))) (And.intro (And.intro @tb_cellsT_37 (And.intro @tb_zeroT_37 @tb_fieldOff_37_0)) (And.intro (And.intro @tb_isAggT_2 @tb_cellsT_2) (And.intro @tb_fieldOff_37_1 @tb_isAggT_35)))) (And.intro (And.intro (And.intro @tb_cellsT_35 (And.intro @tb_callable_11 @tb_bsT_47_1)) (And.intro @tb_callable_12 (And.intro @tb_callable_13 @tb_lenT_47))) (And.intro (And.intro @tb_indexT_47 (And.intro @tb_callable_14 @tb_zeroT_35)) (And.intro (And.intro @tb_eqT_35 @tb_eqS_35) (And.intro @tb_buildT_57 @tb_bsT_25_1)))))
abbrev tf6 := (And.intro (And.intro (And.intro @tb_res_6 @tb_callable_15) (And.intro @tb_fieldOff_46_0 @tb_fieldOff_44_0)) (And.intro (And.intro @tb_isAggT_22 @tb_cellsT_22) (And.intro @tb_indexT_22 @tb_callable_16)))
abbrev tf7 := (And.intro (And.intro (And.intro (And.intro @tb_res_7 @tb_lenT_22) (And.intro @tb_indexT_22 (And.intro @tb_isAggT_37 @tb_cellsT_37))) (And.intro (And.intro @tb_zeroT_37 @tb_fieldOff_37_0) (And.intro @tb_isAggT_2 (And.intro @tb_cellsT_2 @tb_bsT_47_1)))) (And.intro (And.intro (And.intro @tb_fieldOff_37_1 @tb_isAggT_35) (And.intro @tb_cellsT_35 (And.intro @tb_bsT_61_1 @tb_callable_17))) (And.intro (And.intro @tb_eqT_30 @tb_callable_18) (And.intro @tb_zeroT_65 (And.intro @tb_callable_19 @tb_callable_20)))))
abbrev tf8 := (And.intro (And.intro (And.intro (And.intro @tb_res_8 @tb_callable_21) (And.intro @tb_callable_22 @tb_callable_23)) (And.intro (And.intro @tb_eqT_30 @tb_callable_24) (And.intro @tb_callable_25 (And.intro @tb_lenT_47 @tb_lenT_61)))) (And.intro (And.intro (And.intro @tb_callable_26 @tb_indexT_47) (And.intro @tb_isAggT_2 @tb_cellsT_2)) (And.intro (And.intro @tb_indexT_61 @tb_isAggT_35) (And.intro @tb_cellsT_35 (And.intro @tb_buildT_37 @tb_bsT_22_1)))))
abbrev tf9 := (And.intro (And.intro (And.intro @tb_res_9 @tb_callable_8) (And.intro @tb_eqT_30 @tb_lenT_22)) (And.intro (And.intro @tb_indexT_22 @tb_fieldOff_37_0) (And.intro @tb_isAggT_2 @tb_cellsT_2)))
abbrev tf10 := (And.intro (And.intro (And.intro @tb_res_10 @tb_eqT_23) (And.intro @tb_fieldOff_46_0 (And.intro @tb_fieldOff_44_0 @tb_isAggT_22))) (And.intro (And.intro @tb_cellsT_22 @tb_callable_16) (And.intro @tb_buildT_44 (And.intro @tb_buildT_46 @tb_zeroT_46))))
abbrev tf11 := (And.intro (And.intro (And.intro (And.intro @tb_res_11 @tb_isAggT_35) (And.intro @tb_cellsT_35 @tb_zeroT_35)) (And.intro (And.intro @tb_eqT_23 @tb_buildT_35) (And.intro @tb_fieldOff_46_0 @tb_callable_27))) (And.intro (And.intro (And.intro @tb_fieldOff_44_0 @tb_isAggT_22) (And.intro @tb_cellsT_22 @tb_indexT_22)) (And.intro (And.intro @tb_fieldOff_37_1 @tb_buildT_37) (And.intro @tb_bsT_22_1 @tb_callable_28))))
abbrev tf12 := (And.intro (And.intro @tb_res_12 @tb_lenT_47) (And.intro @tb_convT_3_83 (And.intro @tb_callable_30 @tb_callable_29)))
abbrev tf13 := (And.intro (And.intro @tb_res_13 @tb_lenT_47) (And.intro @tb_indexT_47 (And.intro @tb_isAggT_2 @tb_cellsT_2)))
abbrev tf14 := (And.intro (And.intro (And.intro @tb_res_14 (And.intro @tb_isAggT_35 @tb_cellsT_35)) (And.intro @tb_zeroT_35 (And.intro @tb_eqT_23 @tb_buildT_35))) (And.intro (And.intro @tb_fieldOff_46_0 (And.intro @tb_callable_27 @tb_fieldOff_44_0)) (And.intro (And.intro @tb_isAggT_22 @tb_cellsT_22) (And.intro @tb_indexT_22 @tb_fieldOff_37_1))))
abbrev tf15 := (And.intro (And.intro @tb_res_15 @tb_eqT_23) (And.intro @tb_fieldOff_46_0 @tb_callable_27))
abbrev tf16 := (And.intro @tb_res_16 (And.intro @tb_eqT_22 @tb_bsT_22_0))
abbrev tf17 := (And.intro (And.intro (And.intro @tb_res_17 (And.intro @tb_lenT_47 @tb_callable_26)) (And.intro (And.intro @tb_zeroT_65 @tb_convT_3_85) (And.intro @tb_callable_31 @tb_indexT_47))) (And.intro (And.intro @tb_isAggT_2 (And.intro @tb_cellsT_2 @tb_callable_32)) (And.intro (And.intro @tb_convT_2_85 @tb_convT_85_2) (And.intro @tb_callable_33 @tb_callable_20))))
abbrev tf18 := (And.intro (And.intro (And.intro (And.intro @tb_res_18 @tb_lenT_61) (And.intro @tb_callable_26 (And.intro @tb_zeroT_65 @tb_convT_3_85))) (And.intro (And.intro @tb_callable_31 (And.intro @tb_zeroT_35 @tb_indexT_61)) (And.intro @tb_isAggT_35 (And.intro @tb_cellsT_35 @tb_callable_34)))) (And.intro (And.intro (And.intro @tb_eqT_35 (And.intro @tb_eqS_35 @tb_callable_35)) (And.intro @tb_fieldOff_35_0 (And.intro @tb_isAggT_33 @tb_cellsT_33))) (And.intro (And.intro @tb_fieldOff_35_1 (And.intro @tb_isAggT_2 @tb_cellsT_2)) (And.intro @tb_callable_36 (And.intro @tb_callable_37 @tb_callable_20)))))
abbrev tf19 := (And.intro (And.intro @tb_res_19 @tb_lenT_28) (And.intro @tb_convT_3_85 (And.intro @tb_callable_31 @tb_callable_38)))
abbrev tf20 := (And.intro (And.intro @tb_res_20 (And.intro @tb_eqT_88 @tb_fieldOff_65_0)) (And.intro @tb_isAggT_28 (And.intro @tb_cellsT_28 @tb_callable_39)))
abbrev tf21 := (And.intro (And.intro @tb_res_21 @tb_callable_39) (And.intro @tb_buildT_96 (And.intro @tb_buildT_98 @tb_zeroT_98)))
abbrev tf22 := (And.intro @tb_res_22 (And.intro @tb_callable_40 @tb_callable_39))
abbrev tf23 := (And.intro (And.intro (And.intro @tb_res_23 @tb_callable_41) (And.intro @tb_eqT_30 (And.intro @tb_fieldOff_98_0 @tb_callable_42))) (And.intro (And.intro @tb_fieldOff_96_1 @tb_isAggT_3) (And.intro @tb_cellsT_3 (And.intro @tb_callable_43 @tb_callable_44))))
abbrev tf24 := (And.intro (And.intro (And.intro (And.intro @tb_res_24 @tb_callable_21) (And.intro @tb_callable_45 @tb_convT_85_3)) (And.intro (And.intro @tb_callable_41 @tb_eqT_30) (And.intro @tb_callable_46 (And.intro @tb_bsT_47_1 @tb_callable_47)))) (And.intro (And.intro (And.intro @tb_convT_2_85 @tb_indexT_47) (And.intro @tb_isAggT_2 @tb_cellsT_2)) (And.intro (And.intro @tb_convT_85_2 @tb_callable_23) (And.intro @tb_callable_17 (And.intro @tb_callable_48 @tb_callable_26)))))
abbrev tf25 := (And.intro (And.intro (And.intro (And.intro @tb_res_25 @tb_callable_21) (And.intro @tb_callable_45 (And.intro @tb_convT_85_3 @tb_zeroT_35))) (And.intro (And.intro @tb_lenT_61 (And.intro @tb_callable_41 @tb_eqT_30)) (And.intro @tb_isAggT_35 (And.intro @tb_cellsT_35 @tb_callable_49)))) (And.intro (And.intro (And.intro @tb_fieldOff_35_0 @tb_isAggT_33) (And.intro @tb_cellsT_33 (And.intro @tb_fieldOff_35_1 @tb_isAggT_2))) (And.intro (And.intro @tb_cellsT_2 (And.intro @tb_bsT_61_1 @tb_callable_23)) (And.intro @tb_callable_18 (And.intro @tb_callable_48 @tb_callable_26)))))
abbrev tf26 := (And.intro @tb_res_26 @tb_ifaceT_77)
abbrev tf27 := (And.intro (And.intro @tb_res_27 @tb_fieldOff_44_0) (And.intro @tb_isAggT_22 (And.intro @tb_cellsT_22 @tb_callable_50)))
abbrev tf28 := (And.intro (And.intro @tb_res_28 @tb_indexT_22) (And.intro @tb_lenT_22 (And.intro @tb_callable_53 @tb_callable_54)))
abbrev tf29 := (And.intro (And.intro (And.intro @tb_res_29 (And.intro @tb_callable_55 @tb_callable_56)) (And.intro (And.intro @tb_callable_57 @tb_callable_58) (And.intro @tb_callable_59 @tb_callable_60))) (And.intro (And.intro @tb_indexT_47 (And.intro @tb_isAggT_2 @tb_cellsT_2)) (And.intro (And.intro @tb_callable_61 @tb_callable_62) (And.intro @tb_callable_63 @tb_callable_29))))
abbrev tf30 := (And.intro (And.intro @tb_res_30 @tb_convT_83_122) (And.intro @tb_callable_64 @tb_callable_37))
abbrev tf31 := (And.intro (And.intro @tb_res_31 @tb_convT_85_5) (And.intro @tb_bsT_28_1 @tb_callable_38))
abbrev tf32 := (And.intro @tb_res_32 (And.intro @tb_convT_2_85 @tb_callable_31))
abbrev tf33 := (And.intro (And.intro (And.intro (And.intro @tb_res_33 @tb_callable_65) (And.intro @tb_lenT_123 @tb_indexT_123)) (And.intro (And.intro @tb_isAggT_126 @tb_cellsT_126) (And.intro @tb_zeroT_126 (And.intro @tb_fieldOff_126_2 @tb_isAggT_2)))) (And.intro (And.intro (And.intro @tb_cellsT_2 @tb_fieldOff_126_3) (And.intro @tb_fieldOff_126_0 (And.intro @tb_isAggT_3 @tb_cellsT_3))) (And.intro (And.intro @tb_convT_3_85 @tb_fieldOff_126_1) (And.intro @tb_callable_35 (And.intro @tb_convT_2_85 @tb_fieldOff_126_4)))))
abbrev tf34 := (And.intro (And.intro (And.intro @tb_res_34 @tb_zeroT_35) (And.intro @tb_fieldOff_35_0 @tb_isAggT_33)) (And.intro (And.intro @tb_cellsT_33 @tb_fieldOff_35_1) (And.intro @tb_isAggT_2 @tb_cellsT_2)))
abbrev tf35 := (And.intro (And.intro (And.intro @tb_res_35 (And.intro @tb_eqT_88 @tb_fieldOff_65_1)) (And.intro (And.intro @tb_isAggT_3 @tb_cellsT_3) (And.intro @tb_fieldOff_65_0 @tb_isAggT_28))) (And.intro (And.intro @tb_cellsT_28 (And.intro @tb_bsT_28_1 @tb_lenT_28)) (And.intro (And.intro @tb_indexT_28 @tb_isAggT_5) (And.intro @tb_cellsT_5 @tb_convT_85_5))))
abbrev tf36 := (And.intro @tb_res_36 @tb_convT_2_85)
abbrev tf37 := (And.intro (And.intro @tb_res_37 @tb_convT_85_5) (And.intro @tb_indexT_9 @tb_convT_5_3))
abbrev tf38 := (And.intro (And.intro (And.intro @tb_res_38 @tb_eqT_88) (And.intro @tb_fieldOff_65_0 @tb_isAggT_28)) (And.intro (And.intro @tb_cellsT_28 @tb_fieldOff_65_1) (And.intro @tb_isAggT_3 @tb_cellsT_3)))
abbrev tf39 := (And.intro @tb_res_39 (And.intro @tb_eqT_28 @tb_bsT_28_0))
abbrev tf40 := (And.intro (And.intro (And.intro (And.intro @tb_res_40 (And.intro @tb_callable_66 @tb_fieldOff_98_0)) (And.intro @tb_isAggT_96 (And.intro @tb_cellsT_96 @tb_zeroT_96))) (And.intro (And.intro @tb_convT_3_85 (And.intro @tb_callable_67 @tb_fieldOff_98_1)) (And.intro @tb_isAggT_30 (And.intro @tb_cellsT_30 @tb_eqT_30)))) (And.intro (And.intro (And.intro @tb_fieldOff_96_1 (And.intro @tb_isAggT_3 @tb_cellsT_3)) (And.intro @tb_callable_43 (And.intro @tb_callable_68 @tb_callable_44))) (And.intro (And.intro @tb_fieldOff_96_0 (And.intro @tb_isAggT_28 @tb_cellsT_28)) (And.intro @tb_lenT_28 (And.intro @tb_convT_85_3 @tb_callable_69)))))
abbrev tf41 := (And.intro (And.intro @tb_res_41 (And.intro @tb_eqT_68 @tb_callable_26)) (And.intro @tb_fieldOff_98_1 (And.intro @tb_isAggT_30 @tb_cellsT_30)))
abbrev tf42 := (And.intro (And.intro (And.intro @tb_res_42 @tb_fieldOff_96_2) (And.intro @tb_isAggT_3 (And.intro @tb_cellsT_3 @tb_fieldOff_96_0))) (And.intro (And.intro @tb_isAggT_28 (And.intro @tb_cellsT_28 @tb_fieldOff_96_1)) (And.intro @tb_indexT_28 (And.intro @tb_isAggT_5 @tb_cellsT_5))))
abbrev tf43 := (And.intro (And.intro @tb_res_43 @tb_ifaceT_77) (And.intro @tb_buildT_131 @tb_ifaceT_131))
abbrev tf44 := (And.intro (And.intro @tb_res_44 @tb_eqT_68) (And.intro @tb_fieldOff_98_0 @tb_callable_70))
abbrev tf45 := (And.intro @tb_res_45 @tb_callable_67)
abbrev tf46 := (And.intro @tb_res_46 (And.intro @tb_callable_67 @tb_convT_85_2))
abbrev tf47 := (And.intro (And.intro (And.intro @tb_res_47 (And.intro @tb_callable_65 @tb_lenT_123)) (And.intro (And.intro @tb_indexT_123 @tb_isAggT_126) (And.intro @tb_cellsT_126 @tb_zeroT_126))) (And.intro (And.intro (And.intro @tb_callable_71 @tb_fieldOff_126_4) (And.intro @tb_isAggT_3 @tb_cellsT_3)) (And.intro (And.intro @tb_convT_85_2 @tb_fieldOff_126_2) (And.intro @tb_isAggT_2 @tb_cellsT_2))))
abbrev tf48 := (And.intro @tb_res_48 @tb_convT_28_9)
abbrev tf49 := (And.intro (And.intro (And.intro @tb_res_49 @tb_isAggT_35) (And.intro @tb_cellsT_35 @tb_zeroT_35)) (And.intro (And.intro @tb_callable_71 @tb_convT_85_3) (And.intro @tb_convT_85_2 @tb_buildT_35)))
abbrev tf50 := (And.intro (And.intro @tb_res_50 (And.intro @tb_lenT_22 @tb_convT_3_83)) (And.intro (And.intro @tb_convT_83_3 @tb_indexT_22) (And.intro @tb_isAggT_37 @tb_cellsT_37)))
abbrev tf51 := (And.intro (And.intro @tb_res_51 (And.intro @tb_zeroT_37 @tb_fieldOff_37_0)) (And.intro @tb_isAggT_2 (And.intro @tb_cellsT_2 @tb_callable_52)))
abbrev tf52 := (And.intro @tb_res_52 @tb_callable_72)
abbrev tf54 := (And.intro @tb_res_54 (And.intro @tb_lenT_22 @tb_callable_73))
abbrev tf55 := (And.intro (And.intro @tb_res_55 @tb_indexT_47) (And.intro @tb_isAggT_2 (And.intro @tb_cellsT_2 @tb_callable_61)))
abbrev tf56 := (And.intro (And.intro @tb_res_56 @tb_callable_74) (And.intro @tb_indexT_47 (And.intro @tb_isAggT_2 @tb_cellsT_2)))
abbrev tf57 := (And.intro (And.intro (And.intro @tb_res_57 @tb_convT_3_134) (And.intro @tb_zeroT_134 (And.intro @tb_isAggT_134 @tb_cellsT_134))) (And.intro (And.intro @tb_callable_75 (And.intro @tb_callable_76 @tb_convT_83_3)) (And.intro @tb_indexT_47 (And.intro @tb_isAggT_2 @tb_cellsT_2))))
abbrev tf58 := (And.intro (And.intro @tb_res_58 (And.intro @tb_zeroT_3 @tb_callable_77)) (And.intro @tb_callable_78 (And.intro @tb_isAggT_3 @tb_cellsT_3)))
abbrev tf59 := (And.intro (And.intro @tb_res_59 @tb_indexT_47) (And.intro @tb_isAggT_2 @tb_cellsT_2))
abbrev tf60 := (And.intro (And.intro @tb_res_60 @tb_indexT_47) (And.intro @tb_isAggT_2 (And.intro @tb_cellsT_2 @tb_callable_61)))
abbrev tf61 := (And.intro @tb_res_61 @tb_callable_72)
abbrev tf62 := (And.intro (And.intro @tb_res_62 @tb_indexT_47) (And.intro @tb_isAggT_2 (And.intro @tb_cellsT_2 @tb_callable_61)))
abbrev tf63 := (And.intro (And.intro @tb_res_63 @tb_indexT_47) (And.intro @tb_isAggT_2 (And.intro @tb_cellsT_2 @tb_callable_61)))
abbrev tf64 := (And.intro (And.intro @tb_res_64 @tb_convT_122_5) (And.intro @tb_indexT_9 @tb_convT_5_3))
abbrev tf65 := (And.intro @tb_res_65 (And.intro @tb_buildT_126 @tb_bsT_123_4))
abbrev tf66 := (And.intro (And.intro (And.intro @tb_res_66 (And.intro @tb_eqT_68 @tb_fieldOff_98_1)) (And.intro @tb_isAggT_30 (And.intro @tb_cellsT_30 @tb_eqT_30))) (And.intro (And.intro @tb_fieldOff_98_0 (And.intro @tb_callable_42 @tb_fieldOff_96_1)) (And.intro (And.intro @tb_isAggT_3 @tb_cellsT_3) (And.intro @tb_callable_43 @tb_callable_68))))
abbrev tf67 := (And.intro (And.intro (And.intro (And.intro @tb_res_67 @tb_callable_66) (And.intro @tb_fieldOff_98_0 @tb_fieldOff_96_1)) (And.intro (And.intro @tb_isAggT_3 @tb_cellsT_3) (And.intro @tb_fieldOff_96_0 @tb_isAggT_28))) (And.intro (And.intro (And.intro @tb_cellsT_28 @tb_lenT_28) (And.intro @tb_callable_43 @tb_callable_68)) (And.intro (And.intro @tb_indexT_28 @tb_isAggT_5) (And.intro @tb_cellsT_5 (And.intro @tb_convT_5_85 @tb_fieldOff_96_2)))))
abbrev tf68 := (And.intro (And.intro @tb_res_68 (And.intro @tb_eqT_68 @tb_fieldOff_98_1)) (And.intro @tb_isAggT_30 (And.intro @tb_cellsT_30 @tb_eqT_30)))
abbrev tf69 := (And.intro (And.intro (And.intro @tb_res_69 (And.intro @tb_callable_66 @tb_callable_44)) (And.intro (And.intro @tb_fieldOff_98_0 @tb_fieldOff_96_0) (And.intro @tb_isAggT_28 @tb_cellsT_28))) (And.intro (And.intro (And.intro @tb_lenT_28 @tb_callable_43) (And.intro @tb_callable_68 @tb_fieldOff_96_1)) (And.intro (And.intro @tb_isAggT_3 @tb_cellsT_3) (And.intro @tb_fieldOff_96_2 @tb_indexT_28))))
abbrev tf70 := (And.intro (And.intro (And.intro @tb_res_70 @tb_eqT_129) (And.intro @tb_fieldOff_96_0 @tb_isAggT_28)) (And.intro (And.intro @tb_cellsT_28 @tb_lenT_28) (And.intro @tb_fieldOff_96_1 (And.intro @tb_isAggT_3 @tb_cellsT_3))))
abbrev tf71 := (And.intro (And.intro (And.intro (And.intro @tb_res_71 @tb_eqT_68) (And.intro @tb_fieldOff_98_1 (And.intro @tb_isAggT_30 @tb_cellsT_30))) (And.intro (And.intro @tb_eqT_30 (And.intro @tb_fieldOff_98_0 @tb_fieldOff_96_2)) (And.intro @tb_isAggT_3 (And.intro @tb_cellsT_3 @tb_callable_44)))) (And.intro (And.intro (And.intro @tb_fieldOff_96_0 @tb_isAggT_28) (And.intro @tb_cellsT_28 (And.intro @tb_lenT_28 @tb_callable_43))) (And.intro (And.intro @tb_callable_68 (And.intro @tb_fieldOff_96_1 @tb_indexT_28)) (And.intro @tb_isAggT_5 (And.intro @tb_cellsT_5 @tb_convT_5_85)))))
abbrev tf72 := @tb_res_72
abbrev tf73 := (And.intro @tb_res_73 (And.intro @tb_indexT_22 @tb_callable_79))
abbrev tf74 := (And.intro (And.intro @tb_res_74 @tb_indexT_47) (And.intro @tb_isAggT_2 (And.intro @tb_cellsT_2 @tb_callable_61)))
abbrev tf75 := (And.intro @tb_res_75 (And.intro @tb_convT_3_83 @tb_callable_30))
abbrev tf76 := (And.intro @tb_res_76 (And.intro @tb_isAggT_134 @tb_cellsT_134))
abbrev tf77 := (And.intro @tb_res_77 @tb_callable_78)
abbrev tf78 := (And.intro @tb_res_78 @tb_callable_80)
abbrev tf79 := (And.intro (And.intro @tb_res_79 @tb_lenT_22) (And.intro @tb_indexT_22 (And.intro @tb_isAggT_37 @tb_cellsT_37)))
abbrev tf80 := (And.intro (And.intro @tb_res_80 (And.intro @tb_indexT_47 @tb_isAggT_2)) (And.intro (And.intro @tb_cellsT_2 @tb_callable_61) (And.intro @tb_isAggT_3 @tb_cellsT_3)))
end Go.Proofs.Ytpocfghkolppmaa
