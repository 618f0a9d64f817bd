/- Closed facts on the tables of the program, each by the kernel: written by a program. -/
import Derived.Test.YtifaobnemnbfhaaDen
import Derived.Test.YtifaobnemnbfhaaProg
import Derived.KernelRfl
set_option maxRecDepth 100000
namespace Go.Proofs.Ytifaobnemnbfhaa
open Go
theorem mixed : Try.prog.follows .mixedOrders = true := by kernel_rfl
theorem tb_bsT_107_2 : bsT Try.prog 107 2 = some (3, 1, #[.int .i64 0, .int .i64 0]) := by kernel_rfl
theorem tb_bsT_107_3 : bsT Try.prog 107 3 = some (3, 1, #[.int .i64 0, .int .i64 0, .int .i64 0]) := by kernel_rfl
theorem tb_bsT_22_2 : bsT Try.prog 22 2 = some (28, 1, #[.slice none 0 0, .slice none 0 0]) := by kernel_rfl
theorem tb_bsT_23_0 : bsT Try.prog 23 0 = some (83, 2, #[]) := by kernel_rfl
theorem tb_bsT_28_0 : bsT Try.prog 28 0 = some (37, 6, #[]) := by kernel_rfl
theorem tb_bsT_28_1 : bsT Try.prog 28 1 = some (37, 6, #[.string ByteArray.empty, .slice none 0 0, .string ByteArray.empty, .int .i64 0, .int .u8 0, .int .i64 0]) := by kernel_rfl
theorem tb_bsT_29_0 : bsT Try.prog 29 0 = some (35, 3, #[]) := by kernel_rfl
theorem tb_bsT_29_1 : bsT Try.prog 29 1 = some (35, 3, #[.int .i64 0, .int .u8 0, .int .i64 0]) := by kernel_rfl
theorem tb_bsT_38_1 : bsT Try.prog 38 1 = some (58, 10, #[.string ByteArray.empty, .slice none 0 0, .string ByteArray.empty, .int .i64 0, .bool false, .bool false, .int .u8 0, .int .i64 0, .int .u8 0, .int .i64 0]) := by kernel_rfl
theorem tb_bsT_53_1 : bsT Try.prog 53 1 = some (2, 1, #[.int .i64 0]) := by kernel_rfl
theorem tb_buildT_33 : buildT Try.prog 33 = some (#[.int .u8 0, .int .i64 0], [(0, 1), (1, 1)]) := by kernel_rfl
theorem tb_buildT_35 : buildT Try.prog 35 = some (#[.int .i64 0, .int .u8 0, .int .i64 0], [(0, 1), (1, 2)]) := by kernel_rfl
theorem tb_buildT_49 : buildT Try.prog 49 = some (#[.slice none 0 0], [(0, 1)]) := by kernel_rfl
theorem tb_buildT_51 : buildT Try.prog 51 = some (#[.slice none 0 0], [(0, 1)]) := by kernel_rfl
theorem tb_buildT_58 : buildT Try.prog 58 = some (#[.string ByteArray.empty, .slice none 0 0, .string ByteArray.empty, .int .i64 0, .bool false, .bool false, .int .u8 0, .int .i64 0, .int .u8 0, .int .i64 0], [(0, 3), (3, 1), (4, 1), (5, 1), (6, 2), (8, 2)]) := by kernel_rfl
theorem tb_callable_1 : callable Try.prog 1 = false := by kernel_rfl
theorem tb_callable_10 : callable Try.prog 10 = true := by kernel_rfl
theorem tb_callable_11 : callable Try.prog 11 = true := by kernel_rfl
theorem tb_callable_12 : callable Try.prog 12 = true := by kernel_rfl
theorem tb_callable_13 : callable Try.prog 13 = true := by kernel_rfl
theorem tb_callable_14 : callable Try.prog 14 = true := by kernel_rfl
theorem tb_callable_15 : callable Try.prog 15 = true := by kernel_rfl
theorem tb_callable_16 : callable Try.prog 16 = true := by kernel_rfl
theorem tb_callable_17 : callable Try.prog 17 = true := by kernel_rfl
theorem tb_callable_18 : callable Try.prog 18 = true := by kernel_rfl
theorem tb_callable_19 : callable Try.prog 19 = true := by kernel_rfl
theorem tb_callable_2 : callable Try.prog 2 = true := by kernel_rfl
theorem tb_callable_20 : callable Try.prog 20 = true := by kernel_rfl
theorem tb_callable_21 : callable Try.prog 21 = true := by kernel_rfl
theorem tb_callable_22 : callable Try.prog 22 = true := by kernel_rfl
theorem tb_callable_23 : callable Try.prog 23 = true := by kernel_rfl
theorem tb_callable_24 : callable Try.prog 24 = true := by kernel_rfl
theorem tb_callable_25 : callable Try.prog 25 = true := by kernel_rfl
theorem tb_callable_26 : callable Try.prog 26 = true := by kernel_rfl
theorem tb_callable_27 : callable Try.prog 27 = true := by kernel_rfl
theorem tb_callable_28 : callable Try.prog 28 = true := by kernel_rfl
theorem tb_callable_29 : callable Try.prog 29 = true := by kernel_rfl
theorem tb_callable_3 : callable Try.prog 3 = true := by kernel_rfl
theorem tb_callable_30 : callable Try.prog 30 = true := by kernel_rfl
theorem tb_callable_31 : callable Try.prog 31 = true := by kernel_rfl
theorem tb_callable_32 : callable Try.prog 32 = true := by kernel_rfl
theorem tb_callable_33 : callable Try.prog 33 = true := by kernel_rfl
theorem tb_callable_34 : callable Try.prog 34 = true := by kernel_rfl
theorem tb_callable_35 : callable Try.prog 35 = false := by kernel_rfl
theorem tb_callable_36 : callable Try.prog 36 = true := by kernel_rfl
theorem tb_callable_37 : callable Try.prog 37 = true := by kernel_rfl
theorem tb_callable_38 : callable Try.prog 38 = true := by kernel_rfl
theorem tb_callable_39 : callable Try.prog 39 = true := by kernel_rfl
theorem tb_callable_4 : callable Try.prog 4 = true := by kernel_rfl
theorem tb_callable_40 : callable Try.prog 40 = true := by kernel_rfl
theorem tb_callable_41 : callable Try.prog 41 = true := by kernel_rfl
theorem tb_callable_42 : callable Try.prog 42 = true := by kernel_rfl
theorem tb_callable_43 : callable Try.prog 43 = true := by kernel_rfl
theorem tb_callable_44 : callable Try.prog 44 = true := by kernel_rfl
theorem tb_callable_45 : callable Try.prog 45 = true := by kernel_rfl
theorem tb_callable_46 : callable Try.prog 46 = true := by kernel_rfl
theorem tb_callable_47 : callable Try.prog 47 = true := by kernel_rfl
theorem tb_callable_48 : callable Try.prog 48 = true := by kernel_rfl
theorem tb_callable_49 : callable Try.prog 49 = true := by kernel_rfl
theorem tb_callable_5 : callable Try.prog 5 = true := by kernel_rfl
theorem tb_callable_50 : callable Try.prog 50 = true := by kernel_rfl
theorem tb_callable_51 : callable Try.prog 51 = true := by kernel_rfl
theorem tb_callable_52 : callable Try.prog 52 = true := by kernel_rfl
theorem tb_callable_53 : callable Try.prog 53 = true := by kernel_rfl
theorem tb_callable_54 : callable Try.prog 54 = true := by kernel_rfl
theorem tb_callable_55 : callable Try.prog 55 = true := by kernel_rfl
theorem tb_callable_56 : callable Try.prog 56 = true := by kernel_rfl
theorem tb_callable_57 : callable Try.prog 57 = true := by kernel_rfl
theorem tb_callable_58 : callable Try.prog 58 = true := by kernel_rfl
theorem tb_callable_59 : callable Try.prog 59 = true := by kernel_rfl
theorem tb_callable_6 : callable Try.prog 6 = true := by kernel_rfl
theorem tb_callable_60 : callable Try.prog 60 = true := by kernel_rfl
theorem tb_callable_61 : callable Try.prog 61 = true := by kernel_rfl
theorem tb_callable_62 : callable Try.prog 62 = true := by kernel_rfl
theorem tb_callable_63 : callable Try.prog 63 = true := by kernel_rfl
theorem tb_callable_64 : callable Try.prog 64 = true := by kernel_rfl
theorem tb_callable_65 : callable Try.prog 65 = true := by kernel_rfl
theorem tb_callable_66 : callable Try.prog 66 = true := by kernel_rfl
theorem tb_callable_67 : callable Try.prog 67 = true := by kernel_rfl
theorem tb_callable_68 : callable Try.prog 68 = true := by kernel_rfl
theorem tb_callable_69 : callable Try.prog 69 = true := by kernel_rfl
theorem tb_callable_7 : callable Try.prog 7 = true := by kernel_rfl
theorem tb_callable_70 : callable Try.prog 70 = true := by kernel_rfl
theorem tb_callable_8 : callable Try.prog 8 = true := by kernel_rfl
theorem tb_callable_9 : callable Try.prog 9 = true := by kernel_rfl
theorem tb_cellsT_100 : cellsT Try.prog 100 = some 1 := by kernel_rfl
theorem tb_cellsT_2 : cellsT Try.prog 2 = some 1 := by kernel_rfl
theorem tb_cellsT_23 : cellsT Try.prog 23 = some 1 := by kernel_rfl
theorem tb_cellsT_25 : cellsT Try.prog 25 = some 3 := by kernel_rfl
theorem tb_cellsT_28 : cellsT Try.prog 28 = some 1 := by kernel_rfl
theorem tb_cellsT_29 : cellsT Try.prog 29 = some 1 := by kernel_rfl
theorem tb_cellsT_3 : cellsT Try.prog 3 = some 1 := by kernel_rfl
theorem tb_cellsT_33 : cellsT Try.prog 33 = some 2 := by kernel_rfl
theorem tb_cellsT_35 : cellsT Try.prog 35 = some 3 := by kernel_rfl
theorem tb_cellsT_37 : cellsT Try.prog 37 = some 6 := by kernel_rfl
theorem tb_cellsT_83 : cellsT Try.prog 83 = some 2 := by kernel_rfl
theorem tb_cellsT_9 : cellsT Try.prog 9 = some 1 := by kernel_rfl
theorem tb_convT_3_100 : convT Try.prog 3 100 = .toInt .u64 := by kernel_rfl
theorem tb_convT_3_72 : convT Try.prog 3 72 = .toInt .u64 := by kernel_rfl
theorem tb_convT_5_3 : convT Try.prog 5 3 = .toInt .i64 := by kernel_rfl
theorem tb_convT_72_3 : convT Try.prog 72 3 = .toInt .i64 := by kernel_rfl
theorem tb_convT_72_93 : convT Try.prog 72 93 = .toInt .u32 := by kernel_rfl
theorem tb_convT_93_5 : convT Try.prog 93 5 = .toInt .u8 := by kernel_rfl
theorem tb_convT_95_5 : convT Try.prog 95 5 = .toInt .u8 := by kernel_rfl
theorem tb_eqT_23 : eqT Try.prog 23 = .sl := by kernel_rfl
theorem tb_eqT_26 : eqT Try.prog 26 = .ptr := by kernel_rfl
theorem tb_eqT_28 : eqT Try.prog 28 = .sl := by kernel_rfl
theorem tb_eqT_29 : eqT Try.prog 29 = .sl := by kernel_rfl
theorem tb_eqT_33 : eqT Try.prog 33 = .struct := by kernel_rfl
theorem tb_eqT_35 : eqT Try.prog 35 = .struct := by kernel_rfl
theorem tb_fieldOff_25_0 : fieldOff Try.prog 25 0 = some 0 := by kernel_rfl
theorem tb_fieldOff_25_1 : fieldOff Try.prog 25 1 = some 1 := by kernel_rfl
theorem tb_fieldOff_25_2 : fieldOff Try.prog 25 2 = some 2 := by kernel_rfl
theorem tb_fieldOff_35_0 : fieldOff Try.prog 35 0 = some 0 := by kernel_rfl
theorem tb_fieldOff_35_1 : fieldOff Try.prog 35 1 = some 1 := by kernel_rfl
theorem tb_fieldOff_37_0 : fieldOff Try.prog 37 0 = some 0 := by kernel_rfl
theorem tb_fieldOff_37_1 : fieldOff Try.prog 37 1 = some 3 := by kernel_rfl
theorem tb_fieldOff_49_0 : fieldOff Try.prog 49 0 = some 0 := by kernel_rfl
theorem tb_fieldOff_51_0 : fieldOff Try.prog 51 0 = some 0 := by kernel_rfl
theorem tb_fieldOff_83_0 : fieldOff Try.prog 83 0 = some 0 := by kernel_rfl
theorem tb_fieldOff_83_1 : fieldOff Try.prog 83 1 = some 1 := by kernel_rfl
theorem tb_ifaceT_9 : ifaceT Try.prog 9 = some false := by kernel_rfl
theorem tb_indexT_107 : indexT Try.prog 107 = some (.sl 1) := by kernel_rfl
theorem tb_indexT_22 : indexT Try.prog 22 = some (.sl 1) := by kernel_rfl
theorem tb_indexT_23 : indexT Try.prog 23 = some (.sl 2) := by kernel_rfl
theorem tb_indexT_28 : indexT Try.prog 28 = some (.sl 6) := by kernel_rfl
theorem tb_indexT_29 : indexT Try.prog 29 = some (.sl 3) := by kernel_rfl
theorem tb_indexT_53 : indexT Try.prog 53 = some (.sl 1) := by kernel_rfl
theorem tb_indexT_9 : indexT Try.prog 9 = some (.str) := by kernel_rfl
theorem tb_isAggT_100 : isAggT Try.prog 100 = some false := by kernel_rfl
theorem tb_isAggT_2 : isAggT Try.prog 2 = some false := by kernel_rfl
theorem tb_isAggT_23 : isAggT Try.prog 23 = some false := by kernel_rfl
theorem tb_isAggT_25 : isAggT Try.prog 25 = some true := by kernel_rfl
theorem tb_isAggT_28 : isAggT Try.prog 28 = some false := by kernel_rfl
theorem tb_isAggT_29 : isAggT Try.prog 29 = some false := by kernel_rfl
theorem tb_isAggT_3 : isAggT Try.prog 3 = some false := by kernel_rfl
theorem tb_isAggT_33 : isAggT Try.prog 33 = some true := by kernel_rfl
theorem tb_isAggT_35 : isAggT Try.prog 35 = some true := by kernel_rfl
theorem tb_isAggT_37 : isAggT Try.prog 37 = some true := by kernel_rfl
theorem tb_isAggT_83 : isAggT Try.prog 83 = some true := by kernel_rfl
theorem tb_isAggT_9 : isAggT Try.prog 9 = some false := by kernel_rfl
theorem tb_lenT_107 : lenT Try.prog 107 = .sl := by kernel_rfl
theorem tb_lenT_22 : lenT Try.prog 22 = .sl := by kernel_rfl
theorem tb_lenT_23 : lenT Try.prog 23 = .sl := by kernel_rfl
theorem tb_lenT_28 : lenT Try.prog 28 = .sl := by kernel_rfl
theorem tb_lenT_29 : lenT Try.prog 29 = .sl := by kernel_rfl
theorem tb_lenT_53 : lenT Try.prog 53 = .sl := by kernel_rfl
theorem tb_res_10 : Try.f10.results.toList = [.cell 6 33, .tmp 7] := by kernel_rfl
theorem tb_res_11 : Try.f11.results.toList = [.tmp 2] := by kernel_rfl
theorem tb_res_12 : Try.f12.results.toList = [.tmp 4] := by kernel_rfl
theorem tb_res_13 : Try.f13.results.toList = [.tmp 2] := by kernel_rfl
theorem tb_res_14 : Try.f14.results.toList = [] := by kernel_rfl
theorem tb_res_15 : Try.f15.results.toList = [.tmp 2] := by kernel_rfl
theorem tb_res_16 : Try.f16.results.toList = [.cell 4 33, .tmp 5] := by kernel_rfl
theorem tb_res_17 : Try.f17.results.toList = [.tmp 2] := by kernel_rfl
theorem tb_res_18 : Try.f18.results.toList = [.tmp 2] := by kernel_rfl
theorem tb_res_19 : Try.f19.results.toList = [.tmp 6, .tmp 7] := by kernel_rfl
theorem tb_res_2 : Try.f2.results.toList = [] := by kernel_rfl
theorem tb_res_20 : Try.f20.results.toList = [.tmp 2] := by kernel_rfl
theorem tb_res_21 : Try.f21.results.toList = [.cell 4 35, .tmp 5] := by kernel_rfl
theorem tb_res_22 : Try.f22.results.toList = [.tmp 4, .tmp 5] := by kernel_rfl
theorem tb_res_23 : Try.f23.results.toList = [.tmp 6] := by kernel_rfl
theorem tb_res_24 : Try.f24.results.toList = [.tmp 4] := by kernel_rfl
theorem tb_res_25 : Try.f25.results.toList = [.tmp 4] := by kernel_rfl
theorem tb_res_26 : Try.f26.results.toList = [] := by kernel_rfl
theorem tb_res_27 : Try.f27.results.toList = [.tmp 2] := by kernel_rfl
theorem tb_res_28 : Try.f28.results.toList = [.tmp 2] := by kernel_rfl
theorem tb_res_29 : Try.f29.results.toList = [.tmp 4] := by kernel_rfl
theorem tb_res_3 : Try.f3.results.toList = [.tmp 4] := by kernel_rfl
theorem tb_res_30 : Try.f30.results.toList = [.tmp 4] := by kernel_rfl
theorem tb_res_31 : Try.f31.results.toList = [.tmp 4] := by kernel_rfl
theorem tb_res_32 : Try.f32.results.toList = [.tmp 6, .tmp 7] := by kernel_rfl
theorem tb_res_33 : Try.f33.results.toList = [.tmp 4] := by kernel_rfl
theorem tb_res_34 : Try.f34.results.toList = [.tmp 4] := by kernel_rfl
theorem tb_res_36 : Try.f36.results.toList = [] := by kernel_rfl
theorem tb_res_37 : Try.f37.results.toList = [] := by kernel_rfl
theorem tb_res_38 : Try.f38.results.toList = [] := by kernel_rfl
theorem tb_res_39 : Try.f39.results.toList = [] := by kernel_rfl
theorem tb_res_4 : Try.f4.results.toList = [.tmp 0] := by kernel_rfl
theorem tb_res_40 : Try.f40.results.toList = [.tmp 6, .tmp 7] := by kernel_rfl
theorem tb_res_41 : Try.f41.results.toList = [] := by kernel_rfl
theorem tb_res_42 : Try.f42.results.toList = [.tmp 6] := by kernel_rfl
theorem tb_res_43 : Try.f43.results.toList = [.tmp 4] := by kernel_rfl
theorem tb_res_44 : Try.f44.results.toList = [.tmp 8] := by kernel_rfl
theorem tb_res_45 : Try.f45.results.toList = [.tmp 8, .tmp 9] := by kernel_rfl
theorem tb_res_46 : Try.f46.results.toList = [.tmp 2] := by kernel_rfl
theorem tb_res_47 : Try.f47.results.toList = [.tmp 2] := by kernel_rfl
theorem tb_res_48 : Try.f48.results.toList = [.tmp 2] := by kernel_rfl
theorem tb_res_49 : Try.f49.results.toList = [.tmp 2] := by kernel_rfl
theorem tb_res_5 : Try.f5.results.toList = [.tmp 4] := by kernel_rfl
theorem tb_res_50 : Try.f50.results.toList = [] := by kernel_rfl
theorem tb_res_51 : Try.f51.results.toList = [.tmp 2] := by kernel_rfl
theorem tb_res_52 : Try.f52.results.toList = [.tmp 4] := by kernel_rfl
theorem tb_res_53 : Try.f53.results.toList = [.tmp 2] := by kernel_rfl
theorem tb_res_54 : Try.f54.results.toList = [] := by kernel_rfl
theorem tb_res_55 : Try.f55.results.toList = [] := by kernel_rfl
theorem tb_res_56 : Try.f56.results.toList = [.tmp 2] := by kernel_rfl
theorem tb_res_57 : Try.f57.results.toList = [.tmp 2] := by kernel_rfl
theorem tb_res_58 : Try.f58.results.toList = [.tmp 6] := by kernel_rfl
theorem tb_res_59 : Try.f59.results.toList = [.tmp 10] := by kernel_rfl
theorem tb_res_6 : Try.f6.results.toList = [.tmp 4] := by kernel_rfl
theorem tb_res_60 : Try.f60.results.toList = [] := by kernel_rfl
theorem tb_res_61 : Try.f61.results.toList = [.tmp 4] := by kernel_rfl
theorem tb_res_62 : Try.f62.results.toList = [.tmp 4] := by kernel_rfl
theorem tb_res_63 : Try.f63.results.toList = [.tmp 6] := by kernel_rfl
theorem tb_res_64 : Try.f64.results.toList = [] := by kernel_rfl
theorem tb_res_65 : Try.f65.results.toList = [.tmp 8, .tmp 9] := by kernel_rfl
theorem tb_res_66 : Try.f66.results.toList = [] := by kernel_rfl
theorem tb_res_67 : Try.f67.results.toList = [] := by kernel_rfl
theorem tb_res_68 : Try.f68.results.toList = [.tmp 2] := by kernel_rfl
theorem tb_res_69 : Try.f69.results.toList = [] := by kernel_rfl
theorem tb_res_7 : Try.f7.results.toList = [.tmp 4] := by kernel_rfl
theorem tb_res_70 : Try.f70.results.toList = [] := by kernel_rfl
theorem tb_res_8 : Try.f8.results.toList = [.tmp 6] := by kernel_rfl
theorem tb_res_9 : Try.f9.results.toList = [.cell 2 35, .tmp 3] := by kernel_rfl
theorem tb_zeroT_100 : zeroT Try.prog 100 = some (.int .u64 0) := by kernel_rfl
theorem tb_zeroT_25 : zeroT Try.prog 25 = some (.agg #[.string ByteArray.empty, .slice none 0 0, .string ByteArray.empty]) := by kernel_rfl
theorem tb_zeroT_3 : zeroT Try.prog 3 = some (.int .i64 0) := by kernel_rfl
theorem tb_zeroT_33 : zeroT Try.prog 33 = some (.agg #[.int .u8 0, .int .i64 0]) := by kernel_rfl
theorem tb_zeroT_35 : zeroT Try.prog 35 = some (.agg #[.int .i64 0, .int .u8 0, .int .i64 0]) := by kernel_rfl
theorem tb_zeroT_37 : zeroT Try.prog 37 = some (.agg #[.string ByteArray.empty, .slice none 0 0, .string ByteArray.empty, .int .i64 0, .int .u8 0, .int .i64 0]) := by kernel_rfl
theorem tb_zeroT_51 : zeroT Try.prog 51 = some (.agg #[.slice none 0 0]) := by kernel_rfl
theorem tb_zeroT_83 : zeroT Try.prog 83 = some (.agg #[.string ByteArray.empty, .string ByteArray.empty]) := by kernel_rfl
theorem eqAgg_of {P : Program} {t : TypeId} {x y : Value} {r : Option Bool} (h : P.eqGuardType P.depth t = false) (hd : eqDeep P 8 t x y = r) : eqAgg P t x y = r := by unfold eqAgg; rw [h]; exact hd
theorem eqDeep_struct {P : Program} {n : Nat} {t : TypeId} {fs : Array Field} {xs ys : Array Value} {r : Option Bool} (hu : P.underlying t = some (.struct fs)) (hh : P.stoodInHeld t = false) (hf : eqFs P (eqDeep P n) xs ys fs.toList = r) : eqDeep P (n + 1) t (.agg xs) (.agg ys) = r := by unfold eqDeep; rw [hu]; show (if P.stoodInHeld t = true then _ else _) = _; rw [if_neg (by rw [hh]; decide)]; exact hf
theorem eqDeep_int {P : Program} {n : Nat} {t : TypeId} {k k' : IntKind} {a b : Int} (hu : P.underlying t = some (.int k')) : eqDeep P (n + 1) t (.int k a) (.int k b) = some (decide (a = b)) := by unfold eqDeep; rw [hu]; exact if_pos rfl
theorem eqDeep_string {P : Program} {n : Nat} {t : TypeId} {a b : ByteArray} (hu : P.underlying t = some .string) : eqDeep P (n + 1) t (.string a) (.string b) = some (decide (a.toList = b.toList)) := by unfold eqDeep; rw [hu]; show some (a.toList == b.toList) = _; by_cases h : a.toList = b.toList <;> simp [h]
theorem eqFs_nil {P : Program} {r : TypeId → Value → Value → Option Bool} {xs ys : Array Value} : eqFs P r xs ys [] = some (decide True) := rfl
theorem eqFs_cons {P : Program} {r : TypeId → Value → Value → Option Bool} {xs ys : Array Value} {f : Field} {fs : List Field} {a b : Value} {c d : Prop} [Decidable c] [Decidable d] (hn : f.name ≠ "_") (ha : partP P f.type xs f.offset = some a) (hb : partP P f.type ys f.offset = some b)
    (hr : r f.type a b = some (decide c)) (ht : eqFs P r xs ys fs = some (decide d)) : eqFs P r xs ys (f :: fs) = some (decide (c ∧ d)) := by
  unfold eqFs
  rw [if_neg hn, ha, hb]
  show (match r f.type a b with | some true => _ | some false => _ | none => _) = _
  rw [hr]
  by_cases h : c
  · rw [decide_eq_true h, ht]; simp [h]
  · rw [decide_eq_false h]; simp [h]
theorem eqPart_leaf {P : Program} {t : TypeId} {cs : Array Value} {o n : Nat} {v : Value} (h : isAggT P t = some false) (hc : cellsT P t = some n) (hv : cs[o]? = some v) : partP P t cs o = some v := by unfold partP; rw [h, hc]; exact hv
theorem eqPart_agg {P : Program} {t : TypeId} {cs : Array Value} {o n : Nat} {x : Array Value} (h : isAggT P t = some true) (hc : cellsT P t = some n) (hv : cs.extract o (o + n) = x) : partP P t cs o = some (.agg x) := by unfold partP; rw [h, hc, ← hv]
theorem tb_eqU_35 : Try.prog.underlying 35 = some (.struct #[⟨"Time", 2, 0, false, "", "", 0⟩, ⟨"Value", 33, 1, false, "", "", 8⟩]) := by kernel_rfl
theorem tb_eqH_35 : Try.prog.stoodInHeld 35 = false := by kernel_rfl
theorem tb_eqA_2 : isAggT Try.prog 2 = some false := by kernel_rfl
theorem tb_eqC_2 : cellsT Try.prog 2 = some 1 := by kernel_rfl
theorem tb_eqU_2 : Try.prog.underlying 2 = some (.int .i64) := by kernel_rfl
theorem tb_eqA_33 : isAggT Try.prog 33 = some true := by kernel_rfl
theorem tb_eqC_33 : cellsT Try.prog 33 = some 2 := by kernel_rfl
theorem tb_eqU_33 : Try.prog.underlying 33 = some (.struct #[⟨"Kind", 31, 0, false, "", "", 0⟩, ⟨"N", 2, 1, false, "", "", 8⟩]) := by kernel_rfl
theorem tb_eqH_33 : Try.prog.stoodInHeld 33 = false := by kernel_rfl
theorem tb_eqA_31 : isAggT Try.prog 31 = some false := by kernel_rfl
theorem tb_eqC_31 : cellsT Try.prog 31 = some 1 := by kernel_rfl
theorem tb_eqU_31 : Try.prog.underlying 31 = some (.int .u8) := by kernel_rfl
theorem tb_eqG_35 : Try.prog.eqGuardType Try.prog.depth 35 = false := by kernel_rfl
theorem tb_eqG_33 : Try.prog.eqGuardType Try.prog.depth 33 = false := by kernel_rfl
theorem tb_eqS_35 (a0 b0 : Int) (a1 b1 : Int) (a2 b2 : Int) : (eqAgg Try.prog 35 (.agg #[.int .i64 a0, .int .u8 a1, .int .i64 a2]) (.agg #[.int .i64 b0, .int .u8 b1, .int .i64 b2])) = some (decide (a0 = b0 ∧ a1 = b1 ∧ a2 = b2)) := (eqAgg_of tb_eqG_35 (eqDeep_struct tb_eqU_35 tb_eqH_35 (eqFs_cons (by decide) (eqPart_leaf tb_eqA_2 tb_eqC_2 rfl) (eqPart_leaf tb_eqA_2 tb_eqC_2 rfl) (eqDeep_int tb_eqU_2) (eqFs_cons (by decide) (eqPart_agg tb_eqA_33 tb_eqC_33 rfl) (eqPart_agg tb_eqA_33 tb_eqC_33 rfl) (eqDeep_struct tb_eqU_33 tb_eqH_33 (eqFs_cons (by decide) (eqPart_leaf tb_eqA_31 tb_eqC_31 rfl) (eqPart_leaf tb_eqA_31 tb_eqC_31 rfl) (eqDeep_int tb_eqU_31) (eqFs_cons (by decide) (eqPart_leaf tb_eqA_2 tb_eqC_2 rfl) (eqPart_leaf tb_eqA_2 tb_eqC_2 rfl) (eqDeep_int tb_eqU_2) eqFs_nil))) eqFs_nil)))).trans (by simp)
theorem tb_eqS_33 (a0 b0 : Int) (a1 b1 : Int) : (eqAgg Try.prog 33 (.agg #[.int .u8 a0, .int .i64 a1]) (.agg #[.int .u8 b0, .int .i64 b1])) = some (decide (a0 = b0 ∧ a1 = b1)) := (eqAgg_of tb_eqG_33 (eqDeep_struct tb_eqU_33 tb_eqH_33 (eqFs_cons (by decide) (eqPart_leaf tb_eqA_31 tb_eqC_31 rfl) (eqPart_leaf tb_eqA_31 tb_eqC_31 rfl) (eqDeep_int tb_eqU_31) (eqFs_cons (by decide) (eqPart_leaf tb_eqA_2 tb_eqC_2 rfl) (eqPart_leaf tb_eqA_2 tb_eqC_2 rfl) (eqDeep_int tb_eqU_2) eqFs_nil)))).trans (by simp)
/- all facts that one function's walk wants. -/
abbrev tf2 := (And.intro @tb_res_2 @tb_callable_1)
abbrev tf3 := (And.intro (And.intro (And.intro (And.intro (And.intro @tb_res_3 @tb_zeroT_25) (And.intro @tb_callable_4 @tb_lenT_22)) (And.intro (And.intro @tb_indexT_22 @tb_isAggT_28) (And.intro @tb_cellsT_28 @tb_lenT_28))) (And.intro (And.intro (And.intro @tb_indexT_28 @tb_fieldOff_37_0) (And.intro @tb_isAggT_25 @tb_cellsT_25)) (And.intro (And.intro @tb_callable_5 @tb_fieldOff_37_1) (And.intro @tb_isAggT_35 @tb_cellsT_35)))) (And.intro (And.intro (And.intro (And.intro @tb_bsT_29_1 @tb_callable_6) (And.intro @tb_callable_7 @tb_callable_8)) (And.intro (And.intro @tb_callable_9 @tb_zeroT_35) (And.intro @tb_fieldOff_35_0 @tb_isAggT_2))) (And.intro (And.intro (And.intro @tb_cellsT_2 @tb_lenT_29) (And.intro @tb_indexT_29 @tb_eqT_35)) (And.intro (And.intro @tb_eqS_35 @tb_buildT_33) (And.intro @tb_callable_10 @tb_callable_11)))))
abbrev tf4 := (And.intro @tb_res_4 (And.intro @tb_buildT_51 @tb_zeroT_51))
abbrev tf5 := (And.intro (And.intro @tb_res_5 @tb_zeroT_25) (And.intro @tb_isAggT_25 (And.intro @tb_cellsT_25 @tb_callable_12)))
abbrev tf6 := (And.intro (And.intro (And.intro (And.intro @tb_res_6 (And.intro @tb_eqT_26 @tb_callable_13)) (And.intro @tb_lenT_29 (And.intro @tb_indexT_29 @tb_isAggT_35))) (And.intro (And.intro @tb_cellsT_35 (And.intro @tb_zeroT_35 @tb_fieldOff_35_0)) (And.intro (And.intro @tb_isAggT_2 @tb_cellsT_2) (And.intro @tb_fieldOff_35_1 @tb_isAggT_33)))) (And.intro (And.intro (And.intro @tb_cellsT_33 (And.intro @tb_callable_10 @tb_bsT_53_1)) (And.intro @tb_callable_14 (And.intro @tb_callable_15 @tb_lenT_53))) (And.intro (And.intro @tb_indexT_53 (And.intro @tb_callable_16 @tb_zeroT_33)) (And.intro (And.intro @tb_eqT_33 @tb_eqS_33) (And.intro @tb_buildT_58 @tb_bsT_38_1)))))
abbrev tf7 := (And.intro (And.intro @tb_res_7 @tb_bsT_22_2) (And.intro @tb_callable_18 @tb_callable_17))
abbrev tf8 := (And.intro (And.intro (And.intro @tb_res_8 @tb_callable_19) (And.intro @tb_fieldOff_51_0 @tb_fieldOff_49_0)) (And.intro (And.intro @tb_isAggT_29 @tb_cellsT_29) (And.intro @tb_indexT_29 @tb_callable_20)))
abbrev tf9 := (And.intro (And.intro @tb_res_9 (And.intro @tb_isAggT_35 @tb_cellsT_35)) (And.intro @tb_zeroT_35 (And.intro @tb_callable_11 @tb_callable_21)))
abbrev tf10 := (And.intro (And.intro (And.intro (And.intro @tb_res_10 @tb_isAggT_33) (And.intro @tb_cellsT_33 @tb_zeroT_33)) (And.intro (And.intro @tb_eqT_26 @tb_buildT_33) (And.intro @tb_fieldOff_51_0 @tb_callable_22))) (And.intro (And.intro (And.intro @tb_fieldOff_49_0 @tb_isAggT_29) (And.intro @tb_cellsT_29 @tb_indexT_29)) (And.intro (And.intro @tb_fieldOff_35_1 @tb_buildT_35) (And.intro @tb_bsT_29_1 @tb_callable_23))))
abbrev tf11 := (And.intro (And.intro @tb_res_11 (And.intro @tb_eqT_26 @tb_fieldOff_51_0)) (And.intro (And.intro @tb_fieldOff_49_0 @tb_isAggT_29) (And.intro @tb_cellsT_29 @tb_lenT_29)))
abbrev tf12 := (And.intro (And.intro (And.intro @tb_res_12 @tb_zeroT_25) (And.intro @tb_fieldOff_25_0 (And.intro @tb_isAggT_9 @tb_cellsT_9))) (And.intro (And.intro @tb_callable_24 (And.intro @tb_fieldOff_25_1 @tb_isAggT_23)) (And.intro @tb_cellsT_23 (And.intro @tb_callable_25 @tb_fieldOff_25_2))))
abbrev tf13 := (And.intro (And.intro (And.intro @tb_res_13 @tb_eqT_26) (And.intro @tb_fieldOff_51_0 (And.intro @tb_fieldOff_49_0 @tb_isAggT_29))) (And.intro (And.intro @tb_cellsT_29 @tb_callable_20) (And.intro @tb_buildT_49 (And.intro @tb_buildT_51 @tb_zeroT_51))))
abbrev tf14 := (And.intro (And.intro @tb_res_14 @tb_lenT_53) (And.intro @tb_convT_3_72 (And.intro @tb_callable_27 @tb_callable_26)))
abbrev tf15 := (And.intro (And.intro @tb_res_15 @tb_lenT_53) (And.intro @tb_indexT_53 (And.intro @tb_isAggT_2 @tb_cellsT_2)))
abbrev tf16 := (And.intro (And.intro (And.intro @tb_res_16 (And.intro @tb_isAggT_33 @tb_cellsT_33)) (And.intro @tb_zeroT_33 (And.intro @tb_eqT_26 @tb_buildT_33))) (And.intro (And.intro @tb_fieldOff_51_0 (And.intro @tb_callable_22 @tb_fieldOff_49_0)) (And.intro (And.intro @tb_isAggT_29 @tb_cellsT_29) (And.intro @tb_indexT_29 @tb_fieldOff_35_1))))
abbrev tf17 := (And.intro @tb_res_17 (And.intro @tb_callable_29 @tb_callable_28))
abbrev tf18 := (And.intro (And.intro (And.intro @tb_res_18 @tb_lenT_22) (And.intro @tb_indexT_22 @tb_isAggT_28)) (And.intro (And.intro @tb_cellsT_28 @tb_lenT_28) (And.intro @tb_ifaceT_9 @tb_callable_31)))
abbrev tf19 := (And.intro (And.intro @tb_res_19 @tb_eqT_26) (And.intro @tb_fieldOff_51_0 @tb_callable_22))
abbrev tf20 := (And.intro @tb_res_20 (And.intro @tb_eqT_29 @tb_bsT_29_0))
abbrev tf21 := (And.intro (And.intro (And.intro @tb_res_21 (And.intro @tb_isAggT_35 @tb_cellsT_35)) (And.intro @tb_zeroT_35 (And.intro @tb_eqT_26 @tb_fieldOff_51_0))) (And.intro (And.intro @tb_fieldOff_49_0 (And.intro @tb_isAggT_29 @tb_cellsT_29)) (And.intro @tb_lenT_29 (And.intro @tb_buildT_35 @tb_indexT_29))))
abbrev tf22 := (And.intro (And.intro @tb_res_22 @tb_fieldOff_49_0) (And.intro @tb_isAggT_29 (And.intro @tb_cellsT_29 @tb_callable_32)))
abbrev tf23 := (And.intro (And.intro @tb_res_23 @tb_indexT_29) (And.intro @tb_lenT_29 (And.intro @tb_callable_35 @tb_callable_36)))
abbrev tf24 := @tb_res_24
abbrev tf25 := (And.intro (And.intro (And.intro @tb_res_25 @tb_lenT_23) (And.intro @tb_indexT_23 @tb_fieldOff_83_0)) (And.intro (And.intro @tb_isAggT_9 @tb_cellsT_9) (And.intro @tb_callable_24 @tb_fieldOff_83_1)))
abbrev tf26 := (And.intro (And.intro (And.intro @tb_res_26 (And.intro @tb_callable_37 @tb_callable_38)) (And.intro (And.intro @tb_callable_39 @tb_callable_40) (And.intro @tb_callable_41 @tb_callable_42))) (And.intro (And.intro @tb_indexT_53 (And.intro @tb_isAggT_2 @tb_cellsT_2)) (And.intro (And.intro @tb_callable_43 @tb_callable_44) (And.intro @tb_callable_45 @tb_callable_26))))
abbrev tf27 := (And.intro (And.intro @tb_res_27 @tb_convT_72_93) (And.intro @tb_callable_46 @tb_callable_47))
abbrev tf28 := (And.intro (And.intro (And.intro @tb_res_28 @tb_lenT_28) (And.intro @tb_indexT_28 @tb_fieldOff_37_0)) (And.intro (And.intro @tb_fieldOff_25_1 @tb_isAggT_23) (And.intro @tb_cellsT_23 @tb_callable_48)))
abbrev tf29 := (And.intro (And.intro (And.intro @tb_res_29 @tb_callable_49) (And.intro @tb_callable_50 @tb_lenT_28)) (And.intro (And.intro @tb_indexT_28 @tb_isAggT_37) (And.intro @tb_cellsT_37 (And.intro @tb_zeroT_37 @tb_bsT_28_1))))
abbrev tf30 := (And.intro (And.intro (And.intro @tb_res_30 (And.intro @tb_zeroT_37 @tb_fieldOff_37_0)) (And.intro @tb_isAggT_25 (And.intro @tb_cellsT_25 @tb_callable_52))) (And.intro (And.intro @tb_fieldOff_37_1 (And.intro @tb_fieldOff_35_0 @tb_isAggT_2)) (And.intro (And.intro @tb_cellsT_2 @tb_callable_34) (And.intro @tb_bsT_107_2 @tb_callable_51))))
abbrev tf31 := (And.intro (And.intro @tb_res_31 @tb_ifaceT_9) (And.intro @tb_lenT_28 @tb_indexT_28))
abbrev tf32 := (And.intro (And.intro @tb_res_32 (And.intro @tb_lenT_29 @tb_convT_3_72)) (And.intro (And.intro @tb_convT_72_3 @tb_indexT_29) (And.intro @tb_isAggT_35 @tb_cellsT_35)))
abbrev tf33 := (And.intro (And.intro @tb_res_33 (And.intro @tb_zeroT_35 @tb_fieldOff_35_0)) (And.intro @tb_isAggT_2 (And.intro @tb_cellsT_2 @tb_callable_34)))
abbrev tf34 := (And.intro @tb_res_34 @tb_callable_53)
abbrev tf36 := (And.intro @tb_res_36 (And.intro @tb_lenT_29 @tb_callable_54))
abbrev tf37 := (And.intro (And.intro @tb_res_37 @tb_indexT_53) (And.intro @tb_isAggT_2 (And.intro @tb_cellsT_2 @tb_callable_43)))
abbrev tf38 := (And.intro (And.intro @tb_res_38 @tb_callable_55) (And.intro @tb_indexT_53 (And.intro @tb_isAggT_2 @tb_cellsT_2)))
abbrev tf39 := (And.intro (And.intro (And.intro @tb_res_39 @tb_convT_3_100) (And.intro @tb_zeroT_100 (And.intro @tb_isAggT_100 @tb_cellsT_100))) (And.intro (And.intro @tb_callable_56 (And.intro @tb_callable_57 @tb_convT_72_3)) (And.intro @tb_indexT_53 (And.intro @tb_isAggT_2 @tb_cellsT_2))))
abbrev tf40 := (And.intro (And.intro @tb_res_40 (And.intro @tb_zeroT_3 @tb_callable_58)) (And.intro @tb_callable_59 (And.intro @tb_isAggT_3 @tb_cellsT_3)))
abbrev tf41 := (And.intro (And.intro @tb_res_41 @tb_indexT_53) (And.intro @tb_isAggT_2 @tb_cellsT_2))
abbrev tf42 := (And.intro (And.intro @tb_res_42 @tb_indexT_53) (And.intro @tb_isAggT_2 (And.intro @tb_cellsT_2 @tb_callable_43)))
abbrev tf43 := (And.intro @tb_res_43 @tb_callable_53)
abbrev tf44 := (And.intro (And.intro @tb_res_44 @tb_indexT_53) (And.intro @tb_isAggT_2 (And.intro @tb_cellsT_2 @tb_callable_43)))
abbrev tf45 := (And.intro (And.intro @tb_res_45 @tb_indexT_53) (And.intro @tb_isAggT_2 (And.intro @tb_cellsT_2 @tb_callable_43)))
abbrev tf46 := (And.intro (And.intro @tb_res_46 @tb_convT_93_5) (And.intro @tb_indexT_9 @tb_convT_5_3))
abbrev tf47 := (And.intro (And.intro @tb_res_47 @tb_convT_95_5) (And.intro @tb_indexT_9 @tb_convT_5_3))
abbrev tf48 := (And.intro @tb_res_48 (And.intro @tb_eqT_23 @tb_bsT_23_0))
abbrev tf49 := (And.intro @tb_res_49 (And.intro @tb_eqT_28 @tb_bsT_28_0))
abbrev tf50 := (And.intro @tb_res_50 (And.intro @tb_lenT_28 @tb_callable_60))
abbrev tf51 := (And.intro (And.intro @tb_res_51 @tb_lenT_107) (And.intro @tb_indexT_107 (And.intro @tb_isAggT_3 @tb_cellsT_3)))
abbrev tf52 := (And.intro (And.intro (And.intro @tb_res_52 (And.intro @tb_zeroT_25 @tb_fieldOff_25_0)) (And.intro @tb_isAggT_9 (And.intro @tb_cellsT_9 @tb_callable_62))) (And.intro (And.intro @tb_fieldOff_25_1 (And.intro @tb_isAggT_23 @tb_cellsT_23)) (And.intro (And.intro @tb_callable_63 @tb_fieldOff_25_2) (And.intro @tb_bsT_107_3 @tb_callable_51))))
abbrev tf53 := @tb_res_53
abbrev tf54 := (And.intro @tb_res_54 (And.intro @tb_indexT_29 @tb_callable_64))
abbrev tf55 := (And.intro (And.intro @tb_res_55 @tb_indexT_53) (And.intro @tb_isAggT_2 (And.intro @tb_cellsT_2 @tb_callable_43)))
abbrev tf56 := (And.intro @tb_res_56 (And.intro @tb_convT_3_72 @tb_callable_27))
abbrev tf57 := (And.intro @tb_res_57 (And.intro @tb_isAggT_100 @tb_cellsT_100))
abbrev tf58 := (And.intro @tb_res_58 @tb_callable_59)
abbrev tf59 := (And.intro @tb_res_59 @tb_callable_65)
abbrev tf60 := (And.intro @tb_res_60 (And.intro @tb_callable_66 @tb_callable_67))
abbrev tf61 := (And.intro (And.intro (And.intro @tb_res_61 @tb_zeroT_83) (And.intro @tb_fieldOff_83_0 @tb_isAggT_9)) (And.intro (And.intro @tb_cellsT_9 @tb_callable_62) (And.intro @tb_fieldOff_83_1 (And.intro @tb_bsT_107_2 @tb_callable_51))))
abbrev tf62 := (And.intro @tb_res_62 @tb_callable_68)
abbrev tf63 := (And.intro (And.intro @tb_res_63 (And.intro @tb_lenT_23 @tb_indexT_23)) (And.intro @tb_isAggT_83 (And.intro @tb_cellsT_83 @tb_zeroT_83)))
abbrev tf64 := (And.intro (And.intro @tb_res_64 @tb_lenT_29) (And.intro @tb_indexT_29 (And.intro @tb_isAggT_35 @tb_cellsT_35)))
abbrev tf65 := (And.intro (And.intro @tb_res_65 (And.intro @tb_indexT_53 @tb_isAggT_2)) (And.intro (And.intro @tb_cellsT_2 @tb_callable_43) (And.intro @tb_isAggT_3 @tb_cellsT_3)))
abbrev tf66 := (And.intro (And.intro @tb_res_66 @tb_indexT_28) (And.intro @tb_isAggT_37 @tb_cellsT_37))
abbrev tf67 := (And.intro (And.intro (And.intro @tb_res_67 @tb_convT_3_72) (And.intro @tb_convT_72_3 @tb_indexT_28)) (And.intro (And.intro @tb_isAggT_37 @tb_cellsT_37) (And.intro @tb_callable_69 @tb_callable_67)))
abbrev tf68 := @tb_res_68
abbrev tf69 := (And.intro @tb_res_69 @tb_callable_70)
abbrev tf70 := (And.intro (And.intro @tb_res_70 @tb_indexT_28) (And.intro @tb_isAggT_37 @tb_cellsT_37))
end Go.Proofs.Ytifaobnemnbfhaa
