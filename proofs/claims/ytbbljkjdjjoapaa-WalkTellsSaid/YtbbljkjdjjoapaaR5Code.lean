/-
 /opt/kit/tree/Derived/Test/R5Code.lean: the functions, compiled (printed by program).
-/
import Derived.Test.YtbbljkjdjjoapaaVsx
import Derived.Test.YtbbljkjdjjoapaaProg
import Derived.KernelRfl
namespace Go.Proofs.W
open Go.Vs
set_option maxRecDepth 100000
def F_wreckagelaw30_WalkTells : Nat := 3
def F_wreckageref09_Great : Nat := 4
def F_walk_Code : Nat := 5
def F_wreckageref30_Code : Nat := 6
def F_walk_At : Nat := 7
def F_wreckageref30_At : Nat := 8
def F_walk_Live : Nat := 9
def F_wreckageref30_Live : Nat := 10
def F_wreckageref04_Great : Nat := 11
def F_image_Find : Nat := 12
def F_wreckageref09_Find : Nat := 13
def F_image_Check : Nat := 14
def F_tables_At : Nat := 15
def F_wreckageref09_Check : Nat := 16
def F_wreckageref08_At : Nat := 17
def F_wreckageref09_Where : Nat := 18
def F_image_Encode : Nat := 19
def F_tables_Check : Nat := 20
def F_sort_Search : Nat := 21
def F_tables_At_1 : Nat := 22
def F_wreckageref09_Fine : Nat := 23
def F_wreckageref09_Coded : Nat := 24
def F_wreckageref08_Check : Nat := 25
def F_wreckageref08_Value : Nat := 26
def F_image_fine : Nat := 27
def F_image_writer_types : Nat := 28
def F_image_writer_number : Nat := 29
def F_image_writer_text : Nat := 30
def F_image_writer_function : Nat := 31
def F_tables_counted : Nat := 32
def F_tables_fine : Nat := 33
def F_wreckageref04_Check : Nat := 34
def F_wreckageref05_Sizes : Nat := 35
def F_wreckageref09_function : Nat := 36
def F_wreckageref09_number : Nat := 37
def F_wreckageref09_fields : Nat := 38
def F_wreckageref02_Said : Nat := 39
def F_wreckageref02_Minimal : Nat := 40
def F_wreckageref02_Double : Nat := 41
def F_wreckageref06_Coded : Nat := 42
def F_wreckageref08_Coded : Nat := 43
def F_wreckageref08_Fine : Nat := 44
def F_kinds_Check : Nat := 45
def F_layout_Size : Nat := 46
def F_image_function : Nat := 47
def F_image_writer_fields : Nat := 48
def F_wire_Vary : Nat := 49
def F_wire_Signed : Nat := 50
def F_ops_Encode : Nat := 51
def F_tables_Encode : Nat := 52
def F_wreckageref04_fine : Nat := 53
def F_wreckageref04_Widths : Nat := 54
def F_wreckageref05_together : Nat := 55
def F_wreckageref04_Named : Nat := 56
def F_wreckageref04_Fields : Nat := 57
def F_wreckageref06_Check : Nat := 58
def F_wreckageref06_Shape : Nat := 59
def F_wreckageref06_Operands : Nat := 60
def F_wreckageref06_Signed : Nat := 61
def F_kinds_fine : Nat := 62
def F_kinds_widths : Nat := 63
def F_layout_asked : Nat := 64
def F_kinds_Named : Nat := 65
def F_image_named : Nat := 66
def F_ops_Check : Nat := 67
def F_wire_Vary_1 : Nat := 68
def F_ops_shape : Nat := 69
def F_ops_operands : Nat := 70
def F_wreckageref04_Parts : Nat := 71
def F_wreckageref05_up : Nat := 72
def F_wreckageref04_Letter : Nat := 73
def F_wreckageref06_Fits : Nat := 74
def F_kinds_fine_1 : Nat := 75
def F_kinds_zero : Nat := 76
def F_layout_extents : Nat := 77
def F_slices_ContainsFunc_api_Field_api_Field : Nat := 78
def F_image_named_1 : Nat := 79
def F_ops_shape_1 : Nat := 80
def F_ops_write : Nat := 81
def F_ops_whole : Nat := 82
def F_ops_below : Nat := 83
def F_ops_read : Nat := 84
def F_slices_ContainsFunc_int_int : Nat := 85
def F_kinds_zero_1 : Nat := 86
def F_layout_lay : Nat := 87
def F_slices_IndexFunc_api_Field_api_Field : Nat := 88
def F_slices_IndexFunc_int_int : Nat := 89
-- 3 wreckage/wreckagelaw30.WalkTells
def a_wreckagelaw30_WalkTells : AFunc := ⟨103, [.tmp 10],
 (.seq
 (.ops [⟨(some 5), .box 3 (.t 0), none, false⟩,
 ⟨(some 9), .box 8 (.t 4), none, false⟩,
 ⟨(some 10), .mov (.c (.bool false)), none, false⟩])
 (.seq
 (.seq
 (.ops [⟨(some 25), .load true 3 (.t 5), none, false⟩,
 ⟨(some 26), .call (.c (.fn (.func F_wreckageref09_Great) [] [])) [(.t 25)], none, false⟩,
 ⟨(some 27), .mov (.t 26), none, false⟩,
 ⟨(some 28), .mov (.t 2), (some (27, false)), false⟩,
 ⟨(some 29), .len (.t 28), (some (27, false)), false⟩,
 ⟨(some 30), .bin .gtr (.t 29) (.c (.int .i64 (200))), (some (27, false)), false⟩,
 ⟨(some 31), .pick (.t 27) (.c (.bool true)) (.t 30), none, false⟩])
 (.cond (.t 31)
 (.seq
 (.ops [⟨(some 10), .mov (.c (.bool true)), none, false⟩])
 .ret)
 .skip))
 (.seq
 (.ops [⟨(some 33), .load true 3 (.t 5), none, false⟩,
 ⟨(some 34), .mov (.t 1), none, false⟩,
 ⟨(some 35), .call (.c (.fn (.func F_walk_Code) [] [])) [(.t 33), (.t 34)], none, false⟩,
 ⟨(some 32), .mov (.t 35), none, false⟩,
 ⟨(some 36), .extract (.t 32) 0, none, false⟩,
 ⟨(some 37), .extract (.t 32) 1, none, false⟩,
 ⟨(some 38), .extract (.t 32) 2, none, false⟩,
 ⟨(some 11), .mov (.t 36), none, false⟩,
 ⟨(some 12), .mov (.t 37), none, false⟩,
 ⟨(some 13), .mov (.t 38), none, false⟩])
 (.seq
 (.ops [⟨(some 40), .load true 3 (.t 5), none, false⟩,
 ⟨(some 41), .mov (.t 1), none, false⟩,
 ⟨(some 42), .call (.c (.fn (.func F_wreckageref30_Code) [] [])) [(.t 40), (.t 41)], none, false⟩,
 ⟨(some 39), .mov (.t 42), none, false⟩,
 ⟨(some 43), .extract (.t 39) 0, none, false⟩,
 ⟨(some 44), .extract (.t 39) 1, none, false⟩,
 ⟨(some 45), .extract (.t 39) 2, none, false⟩,
 ⟨(some 14), .mov (.t 43), none, false⟩,
 ⟨(some 15), .mov (.t 44), none, false⟩,
 ⟨(some 16), .mov (.t 45), none, false⟩])
 (.seq
 (.ops [⟨(some 47), .mov (.t 2), none, false⟩,
 ⟨(some 48), .mov (.t 3), none, false⟩,
 ⟨(some 49), .call (.c (.fn (.func F_walk_At) [] [])) [(.t 47), (.t 48)], none, false⟩,
 ⟨(some 46), .mov (.t 49), none, false⟩,
 ⟨(some 50), .extract (.t 46) 0, none, false⟩,
 ⟨(some 51), .extract (.t 46) 1, none, false⟩,
 ⟨(some 17), .mov (.t 50), none, false⟩,
 ⟨(some 18), .mov (.t 51), none, false⟩])
 (.seq
 (.ops [⟨(some 53), .mov (.t 2), none, false⟩,
 ⟨(some 54), .mov (.t 3), none, false⟩,
 ⟨(some 55), .call (.c (.fn (.func F_wreckageref30_At) [] [])) [(.t 53), (.t 54)], none, false⟩,
 ⟨(some 52), .mov (.t 55), none, false⟩,
 ⟨(some 56), .extract (.t 52) 0, none, false⟩,
 ⟨(some 57), .extract (.t 52) 1, none, false⟩,
 ⟨(some 19), .mov (.t 56), none, false⟩,
 ⟨(some 20), .mov (.t 57), none, false⟩])
 (.seq
 (.ops [⟨(some 59), .load true 3 (.t 5), none, false⟩,
 ⟨(some 60), .load true 8 (.t 9), none, false⟩,
 ⟨(some 61), .call (.c (.fn (.func F_walk_Live) [] [])) [(.t 59), (.t 60)], none, false⟩,
 ⟨(some 58), .mov (.t 61), none, false⟩,
 ⟨(some 62), .extract (.t 58) 0, none, false⟩,
 ⟨(some 63), .extract (.t 58) 1, none, false⟩,
 ⟨(some 21), .mov (.t 62), none, false⟩,
 ⟨(some 22), .mov (.t 63), none, false⟩])
 (.seq
 (.ops [⟨(some 65), .load true 3 (.t 5), none, false⟩,
 ⟨(some 66), .load true 8 (.t 9), none, false⟩,
 ⟨(some 67), .call (.c (.fn (.func F_wreckageref30_Live) [] [])) [(.t 65), (.t 66)], none, false⟩,
 ⟨(some 64), .mov (.t 67), none, false⟩,
 ⟨(some 68), .extract (.t 64) 0, none, false⟩,
 ⟨(some 69), .extract (.t 64) 1, none, false⟩,
 ⟨(some 23), .mov (.t 68), none, false⟩,
 ⟨(some 24), .mov (.t 69), none, false⟩])
 (.seq
 (.ops [⟨(some 70), .mov (.t 11), none, false⟩,
 ⟨(some 71), .mov (.t 14), none, false⟩,
 ⟨(some 72), .bin .eql (.t 70) (.t 71), none, false⟩,
 ⟨(some 73), .mov (.t 72), none, false⟩,
 ⟨(some 74), .mov (.t 12), (some (73, true)), false⟩,
 ⟨(some 75), .mov (.t 15), (some (73, true)), false⟩,
 ⟨(some 76), .bin .eql (.t 74) (.t 75), (some (73, true)), false⟩,
 ⟨(some 77), .pick (.t 73) (.t 76) (.c (.bool false)), none, false⟩,
 ⟨(some 78), .mov (.t 77), none, false⟩,
 ⟨(some 79), .mov (.t 13), (some (78, true)), false⟩,
 ⟨(some 80), .mov (.t 16), (some (78, true)), false⟩,
 ⟨(some 81), .bin .eql (.t 79) (.t 80), (some (78, true)), false⟩,
 ⟨(some 82), .pick (.t 78) (.t 81) (.c (.bool false)), none, false⟩,
 ⟨(some 83), .mov (.t 82), none, false⟩,
 ⟨(some 84), .mov (.t 17), (some (83, true)), false⟩,
 ⟨(some 85), .mov (.t 19), (some (83, true)), false⟩,
 ⟨(some 86), .bin .eql (.t 84) (.t 85), (some (83, true)), false⟩,
 ⟨(some 87), .pick (.t 83) (.t 86) (.c (.bool false)), none, false⟩,
 ⟨(some 88), .mov (.t 87), none, false⟩,
 ⟨(some 89), .mov (.t 18), (some (88, true)), false⟩,
 ⟨(some 90), .mov (.t 20), (some (88, true)), false⟩,
 ⟨(some 91), .bin .eql (.t 89) (.t 90), (some (88, true)), false⟩,
 ⟨(some 92), .pick (.t 88) (.t 91) (.c (.bool false)), none, false⟩,
 ⟨(some 93), .mov (.t 92), none, false⟩,
 ⟨(some 94), .mov (.t 21), (some (93, true)), false⟩,
 ⟨(some 95), .mov (.t 23), (some (93, true)), false⟩,
 ⟨(some 96), .bin .eql (.t 94) (.t 95), (some (93, true)), false⟩,
 ⟨(some 97), .pick (.t 93) (.t 96) (.c (.bool false)), none, false⟩,
 ⟨(some 98), .mov (.t 97), none, false⟩,
 ⟨(some 99), .mov (.t 22), (some (98, true)), false⟩,
 ⟨(some 100), .mov (.t 24), (some (98, true)), false⟩,
 ⟨(some 101), .bin .eql (.t 99) (.t 100), (some (98, true)), false⟩,
 ⟨(some 102), .pick (.t 98) (.t 101) (.c (.bool false)), none, false⟩,
 ⟨(some 10), .mov (.t 102), none, false⟩])
 .ret)))))))))⟩
def n_wreckagelaw30_WalkTells : List (List Nat) := []
theorem c_wreckagelaw30_WalkTells : compFn Try.prog Try.f3 n_wreckagelaw30_WalkTells = some a_wreckagelaw30_WalkTells := by kernel_rfl
-- 4 wreckage/wreckageref09.Great
def a_wreckageref09_Great : AFunc := ⟨101, [.tmp 2],
 (.seq
 (.ops [⟨(some 1), .box 3 (.t 0), none, false⟩,
 ⟨(some 2), .mov (.c (.bool false)), none, false⟩])
 (.seq
 (.seq
 (.ops [⟨(some 8), .faddr 0 (.t 1), none, false⟩,
 ⟨(some 9), .load false 1 (.t 8), none, false⟩,
 ⟨(some 10), .call (.c (.fn (.func F_wreckageref04_Great) [] [])) [(.t 9)], none, false⟩,
 ⟨(some 11), .mov (.t 10), none, false⟩,
 ⟨(some 12), .faddr 1 (.t 1), (some (11, false)), false⟩,
 ⟨(some 13), .load false 1 (.t 12), (some (11, false)), false⟩,
 ⟨(some 14), .len (.t 13), (some (11, false)), false⟩,
 ⟨(some 15), .bin .gtr (.t 14) (.c (.int .i64 (40))), (some (11, false)), false⟩,
 ⟨(some 16), .pick (.t 11) (.c (.bool true)) (.t 15), none, false⟩,
 ⟨(some 17), .mov (.t 16), none, false⟩,
 ⟨(some 18), .faddr 2 (.t 1), (some (17, false)), false⟩,
 ⟨(some 19), .load false 1 (.t 18), (some (17, false)), false⟩,
 ⟨(some 20), .len (.t 19), (some (17, false)), false⟩,
 ⟨(some 21), .bin .gtr (.t 20) (.c (.int .i64 (40))), (some (17, false)), false⟩,
 ⟨(some 22), .pick (.t 17) (.c (.bool true)) (.t 21), none, false⟩])
 (.cond (.t 22)
 (.seq
 (.ops [⟨(some 2), .mov (.c (.bool true)), none, false⟩])
 .ret)
 .skip))
 (.seq
 (.seq
 (.ops [⟨(some 3), .mov (.c (.int .i64 (0))), none, false⟩])
 (.block 0
 (.loop [1, 3]
 (.seq
 (.seq
 (.ops [⟨(some 23), .mov (.t 3), none, false⟩,
 ⟨(some 24), .faddr 1 (.t 1), none, false⟩,
 ⟨(some 25), .load false 1 (.t 24), none, false⟩,
 ⟨(some 26), .len (.t 25), none, false⟩,
 ⟨(some 27), .bin .lss (.t 23) (.t 26), none, false⟩])
 (.cond (.t 27)
 .skip
 (.exit 0)))
 (.seq
 (.block 1
 (.seq
 (.ops [⟨(some 30), .faddr 1 (.t 1), none, false⟩,
 ⟨(some 31), .load false 1 (.t 30), none, false⟩,
 ⟨(some 32), .mov (.t 3), none, false⟩,
 ⟨(some 33), .iaddr 1 (.t 31) (.t 32), none, false⟩,
 ⟨(some 34), .load false 1 (.t 33), none, false⟩,
 ⟨(some 35), .lenS (.t 34), none, false⟩,
 ⟨(some 36), .bin .gtr (.t 35) (.c (.int .i64 (100))), none, false⟩])
 (.cond (.t 36)
 (.seq
 (.ops [⟨(some 2), .mov (.c (.bool true)), none, false⟩])
 .ret)
 .skip)))
 (.ops [⟨(some 28), .mov (.t 3), none, false⟩,
 ⟨(some 29), .bin .add (.t 28) (.c (.int .i64 (1))), none, false⟩,
 ⟨(some 3), .mov (.t 29), none, false⟩]))))))
 (.seq
 (.ops [⟨(some 4), .mov (.c (.int .i64 (0))), none, false⟩])
 (.seq
 (.seq
 (.ops [⟨(some 5), .mov (.c (.int .i64 (0))), none, false⟩])
 (.block 2
 (.loop [1, 4, 5]
 (.seq
 (.seq
 (.ops [⟨(some 37), .mov (.t 5), none, false⟩,
 ⟨(some 38), .faddr 2 (.t 1), none, false⟩,
 ⟨(some 39), .load false 1 (.t 38), none, false⟩,
 ⟨(some 40), .len (.t 39), none, false⟩,
 ⟨(some 41), .bin .lss (.t 37) (.t 40), none, false⟩])
 (.cond (.t 41)
 .skip
 (.exit 2)))
 (.seq
 (.block 3
 (.seq
 (.ops [⟨(some 44), .faddr 2 (.t 1), none, false⟩,
 ⟨(some 45), .load false 1 (.t 44), none, false⟩,
 ⟨(some 46), .mov (.t 5), none, false⟩,
 ⟨(some 47), .iaddr 7 (.t 45) (.t 46), none, false⟩,
 ⟨(some 48), .load true 7 (.t 47), none, false⟩,
 ⟨(some 6), .alloc [.str [], .int .i64 (0), .int .i64 (0), .nils, .nils, .nils, .nils], none, false⟩,
 ⟨none, .store 7 (.t 6) (.t 48), none, false⟩])
 (.seq
 (.ops [⟨(some 49), .mov (.t 4), none, false⟩,
 ⟨(some 50), .faddr 4 (.t 6), none, false⟩,
 ⟨(some 51), .load false 1 (.t 50), none, false⟩,
 ⟨(some 52), .len (.t 51), none, false⟩,
 ⟨(some 53), .bin .add (.t 49) (.t 52), none, false⟩,
 ⟨(some 4), .mov (.t 53), none, false⟩])
 (.seq
 (.seq
 (.ops [⟨(some 54), .faddr 0 (.t 6), none, false⟩,
 ⟨(some 55), .load false 1 (.t 54), none, false⟩,
 ⟨(some 56), .lenS (.t 55), none, false⟩,
 ⟨(some 57), .bin .gtr (.t 56) (.c (.int .i64 (100))), none, false⟩,
 ⟨(some 58), .mov (.t 57), none, false⟩,
 ⟨(some 59), .faddr 3 (.t 6), (some (58, false)), false⟩,
 ⟨(some 60), .load false 1 (.t 59), (some (58, false)), false⟩,
 ⟨(some 61), .len (.t 60), (some (58, false)), false⟩,
 ⟨(some 62), .bin .gtr (.t 61) (.c (.int .i64 (20))), (some (58, false)), false⟩,
 ⟨(some 63), .pick (.t 58) (.c (.bool true)) (.t 62), none, false⟩,
 ⟨(some 64), .mov (.t 63), none, false⟩,
 ⟨(some 65), .faddr 4 (.t 6), (some (64, false)), false⟩,
 ⟨(some 66), .load false 1 (.t 65), (some (64, false)), false⟩,
 ⟨(some 67), .len (.t 66), (some (64, false)), false⟩,
 ⟨(some 68), .bin .gtr (.t 67) (.c (.int .i64 (210))), (some (64, false)), false⟩,
 ⟨(some 69), .pick (.t 64) (.c (.bool true)) (.t 68), none, false⟩,
 ⟨(some 70), .mov (.t 69), none, false⟩,
 ⟨(some 71), .faddr 5 (.t 6), (some (70, false)), false⟩,
 ⟨(some 72), .load false 1 (.t 71), (some (70, false)), false⟩,
 ⟨(some 73), .len (.t 72), (some (70, false)), false⟩,
 ⟨(some 74), .bin .gtr (.t 73) (.c (.int .i64 (210))), (some (70, false)), false⟩,
 ⟨(some 75), .pick (.t 70) (.c (.bool true)) (.t 74), none, false⟩,
 ⟨(some 76), .mov (.t 75), none, false⟩,
 ⟨(some 77), .faddr 6 (.t 6), (some (76, false)), false⟩,
 ⟨(some 78), .load false 1 (.t 77), (some (76, false)), false⟩,
 ⟨(some 79), .len (.t 78), (some (76, false)), false⟩,
 ⟨(some 80), .bin .gtr (.t 79) (.c (.int .i64 (210))), (some (76, false)), false⟩,
 ⟨(some 81), .pick (.t 76) (.c (.bool true)) (.t 80), none, false⟩,
 ⟨(some 82), .mov (.t 81), none, false⟩,
 ⟨(some 83), .mov (.t 4), (some (82, false)), false⟩,
 ⟨(some 84), .bin .gtr (.t 83) (.c (.int .i64 (1000))), (some (82, false)), false⟩,
 ⟨(some 85), .pick (.t 82) (.c (.bool true)) (.t 84), none, false⟩])
 (.cond (.t 85)
 (.seq
 (.ops [⟨(some 2), .mov (.c (.bool true)), none, false⟩])
 .ret)
 .skip))
 (.seq
 (.ops [⟨(some 7), .mov (.c (.int .i64 (0))), none, false⟩])
 (.block 4
 (.loop [1, 4, 5, 6, 7]
 (.seq
 (.seq
 (.ops [⟨(some 86), .mov (.t 7), none, false⟩,
 ⟨(some 87), .faddr 3 (.t 6), none, false⟩,
 ⟨(some 88), .load false 1 (.t 87), none, false⟩,
 ⟨(some 89), .len (.t 88), none, false⟩,
 ⟨(some 90), .bin .lss (.t 86) (.t 89), none, false⟩])
 (.cond (.t 90)
 .skip
 (.exit 4)))
 (.seq
 (.block 5
 (.seq
 (.ops [⟨(some 93), .faddr 3 (.t 6), none, false⟩,
 ⟨(some 94), .load false 1 (.t 93), none, false⟩,
 ⟨(some 95), .mov (.t 7), none, false⟩,
 ⟨(some 96), .iaddr 2 (.t 94) (.t 95), none, false⟩,
 ⟨(some 97), .faddr 0 (.t 96), none, false⟩,
 ⟨(some 98), .load false 1 (.t 97), none, false⟩,
 ⟨(some 99), .lenS (.t 98), none, false⟩,
 ⟨(some 100), .bin .gtr (.t 99) (.c (.int .i64 (100))), none, false⟩])
 (.cond (.t 100)
 (.seq
 (.ops [⟨(some 2), .mov (.c (.bool true)), none, false⟩])
 .ret)
 .skip)))
 (.ops [⟨(some 91), .mov (.t 7), none, false⟩,
 ⟨(some 92), .bin .add (.t 91) (.c (.int .i64 (1))), none, false⟩,
 ⟨(some 7), .mov (.t 92), none, false⟩]))))))))))
 (.ops [⟨(some 42), .mov (.t 5), none, false⟩,
 ⟨(some 43), .bin .add (.t 42) (.c (.int .i64 (1))), none, false⟩,
 ⟨(some 5), .mov (.t 43), none, false⟩]))))))
 (.seq
 (.ops [⟨(some 2), .mov (.c (.bool false)), none, false⟩])
 .ret))))))⟩
def n_wreckageref09_Great : List (List Nat) := [[1, 3], [1, 4, 5], [1, 4, 5, 6, 7]]
theorem c_wreckageref09_Great : compFn Try.prog Try.f4 n_wreckageref09_Great = some a_wreckageref09_Great := by kernel_rfl
-- 5 wreckage/walk.Code
def a_walk_Code : AFunc := ⟨13, [.tmp 4, .tmp 5, .tmp 6],
 (.seq
 (.ops [⟨(some 2), .box 3 (.t 0), none, false⟩,
 ⟨(some 4), .mov (.c (.int .i64 (0))), none, false⟩,
 ⟨(some 5), .mov (.c (.int .i64 (0))), none, false⟩,
 ⟨(some 6), .mov (.c (.int .i64 (0))), none, false⟩])
 (.seq
 (.ops [⟨(some 7), .load true 3 (.t 2), none, false⟩,
 ⟨(some 8), .mov (.t 1), none, false⟩,
 ⟨(some 9), .call (.c (.fn (.func F_image_Find) [] [])) [(.t 7), (.t 8)], none, false⟩,
 ⟨(some 10), .extract (.t 9) 0, none, false⟩,
 ⟨(some 11), .extract (.t 9) 1, none, false⟩,
 ⟨(some 12), .extract (.t 9) 2, none, false⟩,
 ⟨(some 4), .mov (.t 10), none, false⟩,
 ⟨(some 5), .mov (.t 11), none, false⟩,
 ⟨(some 6), .mov (.t 12), none, false⟩])
 .ret))⟩
def n_walk_Code : List (List Nat) := []
theorem c_walk_Code : compFn Try.prog Try.f5 n_walk_Code = some a_walk_Code := by kernel_rfl
-- 6 wreckage/wreckageref30.Code
def a_wreckageref30_Code : AFunc := ⟨13, [.tmp 4, .tmp 5, .tmp 6],
 (.seq
 (.ops [⟨(some 2), .box 3 (.t 0), none, false⟩,
 ⟨(some 4), .mov (.c (.int .i64 (0))), none, false⟩,
 ⟨(some 5), .mov (.c (.int .i64 (0))), none, false⟩,
 ⟨(some 6), .mov (.c (.int .i64 (0))), none, false⟩])
 (.seq
 (.ops [⟨(some 7), .load true 3 (.t 2), none, false⟩,
 ⟨(some 8), .mov (.t 1), none, false⟩,
 ⟨(some 9), .call (.c (.fn (.func F_wreckageref09_Find) [] [])) [(.t 7), (.t 8)], none, false⟩,
 ⟨(some 10), .extract (.t 9) 0, none, false⟩,
 ⟨(some 11), .extract (.t 9) 1, none, false⟩,
 ⟨(some 12), .extract (.t 9) 2, none, false⟩,
 ⟨(some 4), .mov (.t 10), none, false⟩,
 ⟨(some 5), .mov (.t 11), none, false⟩,
 ⟨(some 6), .mov (.t 12), none, false⟩])
 .ret))⟩
def n_wreckageref30_Code : List (List Nat) := []
theorem c_wreckageref30_Code : compFn Try.prog Try.f6 n_wreckageref30_Code = some a_wreckageref30_Code := by kernel_rfl
-- 7 wreckage/walk.At
def a_walk_At : AFunc := ⟨21, [.tmp 4, .tmp 5],
 (.seq
 (.ops [⟨(some 4), .mov (.c (.int .i64 (0))), none, false⟩,
 ⟨(some 5), .mov (.c (.int .i64 (0))), none, false⟩])
 (.seq
 (.seq
 (.ops [⟨(some 8), .mov (.t 0), none, false⟩,
 ⟨(some 9), .len (.t 8), none, false⟩,
 ⟨(some 10), .mov (.c (.int .i64 (0))), none, false⟩])
 (.block 0
 (.loop [1, 8, 9, 10]
 (.seq
 (.ops [⟨(some 11), .bin .lss (.t 10) (.t 9), none, false⟩])
 (.seq
 (.cond (.t 11)
 .skip
 (.exit 0))
 (.seq
 (.block 1
 (.seq
 (.ops [⟨(some 12), .mov (.t 10), none, false⟩,
 ⟨(some 13), .iaddr 8 (.t 8) (.t 10), none, false⟩,
 ⟨(some 14), .load true 8 (.t 13), none, false⟩,
 ⟨(some 7), .alloc [.int .u64 (0), .int .i64 (0), .int .i64 (0), .int .u64 (0), .int .i64 (0), .int .u64 (0), .int .u64 (0), .int .u64 (0)], none, false⟩,
 ⟨(some 6), .mov (.t 12), none, false⟩,
 ⟨none, .store 8 (.t 7) (.t 14), none, false⟩])
 (.seq
 (.ops [⟨(some 15), .faddr 0 (.t 7), none, false⟩,
 ⟨(some 16), .load false 1 (.t 15), none, false⟩,
 ⟨(some 17), .mov (.t 1), none, false⟩,
 ⟨(some 18), .bin .eql (.t 16) (.t 17), none, false⟩])
 (.cond (.t 18)
 (.seq
 (.ops [⟨(some 19), .mov (.t 6), none, false⟩,
 ⟨(some 4), .mov (.t 19), none, false⟩,
 ⟨(some 5), .mov (.c (.int .i64 (0))), none, false⟩])
 .ret)
 .skip))))
 (.ops [⟨(some 20), .bin .add (.t 10) (.c (.int .i64 (1))), none, false⟩,
 ⟨(some 10), .mov (.t 20), none, false⟩])))))))
 (.seq
 (.ops [⟨(some 4), .mov (.c (.int .i64 (0))), none, false⟩,
 ⟨(some 5), .mov (.c (.int .i64 (6))), none, false⟩])
 .ret)))⟩
def n_walk_At : List (List Nat) := [[1, 8, 9, 10]]
theorem c_walk_At : compFn Try.prog Try.f7 n_walk_At = some a_walk_At := by kernel_rfl
-- 8 wreckage/wreckageref30.At
def a_wreckageref30_At : AFunc := ⟨21, [.tmp 4, .tmp 5],
 (.seq
 (.ops [⟨(some 4), .mov (.c (.int .i64 (0))), none, false⟩,
 ⟨(some 5), .mov (.c (.int .i64 (0))), none, false⟩])
 (.seq
 (.seq
 (.ops [⟨(some 6), .mov (.c (.int .i64 (0))), none, false⟩])
 (.block 0
 (.loop [0, 1, 6]
 (.seq
 (.seq
 (.ops [⟨(some 7), .mov (.t 6), none, false⟩,
 ⟨(some 8), .mov (.t 0), none, false⟩,
 ⟨(some 9), .len (.t 8), none, false⟩,
 ⟨(some 10), .bin .lss (.t 7) (.t 9), none, false⟩])
 (.cond (.t 10)
 .skip
 (.exit 0)))
 (.seq
 (.block 1
 (.seq
 (.ops [⟨(some 13), .mov (.t 0), none, false⟩,
 ⟨(some 14), .mov (.t 6), none, false⟩,
 ⟨(some 15), .iaddr 8 (.t 13) (.t 14), none, false⟩,
 ⟨(some 16), .faddr 0 (.t 15), none, false⟩,
 ⟨(some 17), .load false 1 (.t 16), none, false⟩,
 ⟨(some 18), .mov (.t 1), none, false⟩,
 ⟨(some 19), .bin .eql (.t 17) (.t 18), none, false⟩])
 (.cond (.t 19)
 (.seq
 (.ops [⟨(some 20), .mov (.t 6), none, false⟩,
 ⟨(some 4), .mov (.t 20), none, false⟩,
 ⟨(some 5), .mov (.c (.int .i64 (0))), none, false⟩])
 .ret)
 .skip)))
 (.ops [⟨(some 11), .mov (.t 6), none, false⟩,
 ⟨(some 12), .bin .add (.t 11) (.c (.int .i64 (1))), none, false⟩,
 ⟨(some 6), .mov (.t 12), none, false⟩]))))))
 (.seq
 (.ops [⟨(some 4), .mov (.c (.int .i64 (0))), none, false⟩,
 ⟨(some 5), .mov (.c (.int .i64 (6))), none, false⟩])
 .ret)))⟩
def n_wreckageref30_At : List (List Nat) := [[0, 1, 6]]
theorem c_wreckageref30_At : compFn Try.prog Try.f8 n_wreckageref30_At = some a_wreckageref30_At := by kernel_rfl
-- 9 wreckage/walk.Live
def a_walk_Live : AFunc := ⟨61, [.tmp 4, .tmp 5],
 (.seq
 (.ops [⟨(some 2), .box 3 (.t 0), none, false⟩,
 ⟨(some 3), .box 8 (.t 1), none, false⟩,
 ⟨(some 4), .mov (.c (.int .u64 (0))), none, false⟩,
 ⟨(some 5), .mov (.c (.int .i64 (0))), none, false⟩])
 (.seq
 (.seq
 (.ops [⟨(some 7), .load true 3 (.t 2), none, false⟩,
 ⟨(some 8), .call (.c (.fn (.func F_image_Check) [] [])) [(.t 7)], none, false⟩,
 ⟨(some 6), .mov (.t 8), none, false⟩])
 (.seq
 (.ops [⟨(some 9), .mov (.t 6), none, false⟩,
 ⟨(some 10), .bin .neq (.t 9) (.c (.int .i64 (0))), none, false⟩])
 (.cond (.t 10)
 (.seq
 (.ops [⟨(some 11), .mov (.t 6), none, false⟩,
 ⟨(some 4), .mov (.c (.int .u64 (0))), none, false⟩,
 ⟨(some 5), .mov (.t 11), none, false⟩])
 .ret)
 .skip)))
 (.seq
 (.seq
 (.draw [⟨(some 12), .faddr 1 (.t 3), none, false⟩,
 ⟨(some 13), .load false 1 (.t 12), none, false⟩,
 ⟨(some 14), .bin .lss (.t 13) (.c (.int .i64 (0))), none, false⟩,
 ⟨(some 15), .mov (.t 14), none, false⟩,
 ⟨(some 16), .faddr 1 (.t 3), (some (15, false)), false⟩,
 ⟨(some 17), .load false 1 (.t 16), (some (15, false)), false⟩,
 ⟨(some 18), .faddr 2 (.t 2), (some (15, false)), false⟩,
 ⟨(some 19), .load false 1 (.t 18), (some (15, false)), false⟩,
 ⟨(some 20), .len (.t 19), (some (15, false)), false⟩,
 ⟨(some 21), .bin .geq (.t 17) (.t 20), (some (15, false)), false⟩,
 ⟨(some 22), .pick (.t 15) (.c (.bool true)) (.t 21), none, false⟩,
 ⟨(some 23), .mov (.t 22), none, false⟩,
 ⟨(some 24), .faddr 2 (.t 3), (some (23, false)), false⟩,
 ⟨(some 25), .load false 1 (.t 24), (some (23, false)), false⟩,
 ⟨(some 26), .bin .lss (.t 25) (.c (.int .i64 (0))), (some (23, false)), false⟩,
 ⟨(some 27), .pick (.t 23) (.c (.bool true)) (.t 26), none, false⟩,
 ⟨(some 28), .mov (.t 27), none, false⟩,
 ⟨(some 29), .faddr 2 (.t 3), (some (28, false)), false⟩,
 ⟨(some 30), .load false 1 (.t 29), (some (28, false)), false⟩,
 ⟨(some 31), .faddr 2 (.t 2), (some (28, false)), false⟩,
 ⟨(some 32), .load false 1 (.t 31), (some (28, false)), false⟩,
 ⟨(some 33), .faddr 1 (.t 3), (some (28, false)), false⟩,
 ⟨(some 34), .load false 1 (.t 33), (some (28, false)), false⟩,
 ⟨(some 35), .iaddr 7 (.t 32) (.t 34), (some (28, false)), false⟩,
 ⟨(some 36), .faddr 4 (.t 35), (some (28, false)), false⟩,
 ⟨(some 37), .load false 1 (.t 36), (some (28, false)), false⟩,
 ⟨(some 38), .len (.t 37), (some (28, false)), false⟩,
 ⟨(some 39), .bin .geq (.t 30) (.t 38), (some (28, false)), false⟩,
 ⟨(some 40), .pick (.t 28) (.c (.bool true)) (.t 39), none, false⟩])
 (.cond (.t 40)
 (.seq
 (.ops [⟨(some 4), .mov (.c (.int .u64 (0))), none, false⟩,
 ⟨(some 5), .mov (.c (.int .i64 (16))), none, false⟩])
 .ret)
 .skip))
 (.seq
 (.draw [⟨(some 41), .faddr 2 (.t 2), none, false⟩,
 ⟨(some 42), .load false 1 (.t 41), none, false⟩,
 ⟨(some 43), .faddr 1 (.t 3), none, false⟩,
 ⟨(some 44), .load false 1 (.t 43), none, false⟩,
 ⟨(some 45), .iaddr 7 (.t 42) (.t 44), none, false⟩,
 ⟨(some 46), .faddr 6 (.t 45), none, false⟩,
 ⟨(some 47), .load false 1 (.t 46), none, false⟩,
 ⟨(some 48), .faddr 2 (.t 2), none, false⟩,
 ⟨(some 49), .load false 1 (.t 48), none, false⟩,
 ⟨(some 50), .faddr 1 (.t 3), none, false⟩,
 ⟨(some 51), .load false 1 (.t 50), none, false⟩,
 ⟨(some 52), .iaddr 7 (.t 49) (.t 51), none, false⟩,
 ⟨(some 53), .faddr 4 (.t 52), none, false⟩,
 ⟨(some 54), .load false 1 (.t 53), none, false⟩,
 ⟨(some 55), .len (.t 54), none, false⟩,
 ⟨(some 56), .faddr 2 (.t 3), none, false⟩,
 ⟨(some 57), .load false 1 (.t 56), none, false⟩,
 ⟨(some 58), .call (.c (.fn (.func F_tables_At) [] [])) [(.t 47), (.t 55), (.t 57)], none, false⟩,
 ⟨(some 59), .extract (.t 58) 0, none, false⟩,
 ⟨(some 60), .extract (.t 58) 1, none, false⟩,
 ⟨(some 4), .mov (.t 59), none, false⟩,
 ⟨(some 5), .mov (.t 60), none, false⟩])
 .ret))))⟩
def n_walk_Live : List (List Nat) := []
theorem c_walk_Live : compFn Try.prog Try.f9 n_walk_Live = some a_walk_Live := by kernel_rfl
-- 10 wreckage/wreckageref30.Live
def a_wreckageref30_Live : AFunc := ⟨65, [.tmp 4, .tmp 5],
 (.seq
 (.ops [⟨(some 2), .box 3 (.t 0), none, false⟩,
 ⟨(some 3), .box 8 (.t 1), none, false⟩,
 ⟨(some 4), .mov (.c (.int .u64 (0))), none, false⟩,
 ⟨(some 5), .mov (.c (.int .i64 (0))), none, false⟩])
 (.seq
 (.seq
 (.ops [⟨(some 9), .load true 3 (.t 2), none, false⟩,
 ⟨(some 10), .call (.c (.fn (.func F_wreckageref09_Check) [] [])) [(.t 9)], none, false⟩,
 ⟨(some 6), .mov (.t 10), none, false⟩])
 (.seq
 (.ops [⟨(some 11), .mov (.t 6), none, false⟩,
 ⟨(some 12), .bin .neq (.t 11) (.c (.int .i64 (0))), none, false⟩])
 (.cond (.t 12)
 (.seq
 (.ops [⟨(some 13), .mov (.t 6), none, false⟩,
 ⟨(some 4), .mov (.c (.int .u64 (0))), none, false⟩,
 ⟨(some 5), .mov (.t 13), none, false⟩])
 .ret)
 .skip)))
 (.seq
 (.seq
 (.draw [⟨(some 14), .faddr 1 (.t 3), none, false⟩,
 ⟨(some 15), .load false 1 (.t 14), none, false⟩,
 ⟨(some 16), .bin .lss (.t 15) (.c (.int .i64 (0))), none, false⟩,
 ⟨(some 17), .mov (.t 16), none, false⟩,
 ⟨(some 18), .faddr 1 (.t 3), (some (17, false)), false⟩,
 ⟨(some 19), .load false 1 (.t 18), (some (17, false)), false⟩,
 ⟨(some 20), .faddr 2 (.t 2), (some (17, false)), false⟩,
 ⟨(some 21), .load false 1 (.t 20), (some (17, false)), false⟩,
 ⟨(some 22), .len (.t 21), (some (17, false)), false⟩,
 ⟨(some 23), .bin .geq (.t 19) (.t 22), (some (17, false)), false⟩,
 ⟨(some 24), .pick (.t 17) (.c (.bool true)) (.t 23), none, false⟩,
 ⟨(some 25), .mov (.t 24), none, false⟩,
 ⟨(some 26), .faddr 2 (.t 3), (some (25, false)), false⟩,
 ⟨(some 27), .load false 1 (.t 26), (some (25, false)), false⟩,
 ⟨(some 28), .bin .lss (.t 27) (.c (.int .i64 (0))), (some (25, false)), false⟩,
 ⟨(some 29), .pick (.t 25) (.c (.bool true)) (.t 28), none, false⟩,
 ⟨(some 30), .mov (.t 29), none, false⟩,
 ⟨(some 31), .faddr 2 (.t 3), (some (30, false)), false⟩,
 ⟨(some 32), .load false 1 (.t 31), (some (30, false)), false⟩,
 ⟨(some 33), .faddr 2 (.t 2), (some (30, false)), false⟩,
 ⟨(some 34), .load false 1 (.t 33), (some (30, false)), false⟩,
 ⟨(some 35), .faddr 1 (.t 3), (some (30, false)), false⟩,
 ⟨(some 36), .load false 1 (.t 35), (some (30, false)), false⟩,
 ⟨(some 37), .iaddr 7 (.t 34) (.t 36), (some (30, false)), false⟩,
 ⟨(some 38), .faddr 4 (.t 37), (some (30, false)), false⟩,
 ⟨(some 39), .load false 1 (.t 38), (some (30, false)), false⟩,
 ⟨(some 40), .len (.t 39), (some (30, false)), false⟩,
 ⟨(some 41), .bin .geq (.t 32) (.t 40), (some (30, false)), false⟩,
 ⟨(some 42), .pick (.t 30) (.c (.bool true)) (.t 41), none, false⟩])
 (.cond (.t 42)
 (.seq
 (.ops [⟨(some 4), .mov (.c (.int .u64 (0))), none, false⟩,
 ⟨(some 5), .mov (.c (.int .i64 (16))), none, false⟩])
 .ret)
 .skip))
 (.seq
 (.draw [⟨(some 44), .faddr 2 (.t 2), none, false⟩,
 ⟨(some 45), .load false 1 (.t 44), none, false⟩,
 ⟨(some 46), .faddr 1 (.t 3), none, false⟩,
 ⟨(some 47), .load false 1 (.t 46), none, false⟩,
 ⟨(some 48), .iaddr 7 (.t 45) (.t 47), none, false⟩,
 ⟨(some 49), .faddr 6 (.t 48), none, false⟩,
 ⟨(some 50), .load false 1 (.t 49), none, false⟩,
 ⟨(some 51), .faddr 2 (.t 2), none, false⟩,
 ⟨(some 52), .load false 1 (.t 51), none, false⟩,
 ⟨(some 53), .faddr 1 (.t 3), none, false⟩,
 ⟨(some 54), .load false 1 (.t 53), none, false⟩,
 ⟨(some 55), .iaddr 7 (.t 52) (.t 54), none, false⟩,
 ⟨(some 56), .faddr 4 (.t 55), none, false⟩,
 ⟨(some 57), .load false 1 (.t 56), none, false⟩,
 ⟨(some 58), .len (.t 57), none, false⟩,
 ⟨(some 59), .faddr 2 (.t 3), none, false⟩,
 ⟨(some 60), .load false 1 (.t 59), none, false⟩,
 ⟨(some 61), .call (.c (.fn (.func F_wreckageref08_At) [] [])) [(.t 50), (.t 58), (.t 60)], none, false⟩,
 ⟨(some 43), .mov (.t 61), none, false⟩,
 ⟨(some 62), .extract (.t 43) 0, none, false⟩,
 ⟨(some 63), .extract (.t 43) 1, none, false⟩,
 ⟨(some 7), .mov (.t 62), none, false⟩,
 ⟨(some 8), .mov (.t 63), none, false⟩])
 (.seq
 (.ops [⟨(some 64), .mov (.t 7), none, false⟩,
 ⟨(some 4), .mov (.t 64), none, false⟩,
 ⟨(some 5), .mov (.c (.int .i64 (0))), none, false⟩])
 .ret)))))⟩
def n_wreckageref30_Live : List (List Nat) := []
theorem c_wreckageref30_Live : compFn Try.prog Try.f10 n_wreckageref30_Live = some a_wreckageref30_Live := by kernel_rfl
-- 11 wreckage/wreckageref04.Great
def a_wreckageref04_Great : AFunc := ⟨42, [.tmp 2],
 (.seq
 (.ops [⟨(some 2), .mov (.c (.bool false)), none, false⟩])
 (.seq
 (.seq
 (.ops [⟨(some 5), .mov (.t 0), none, false⟩,
 ⟨(some 6), .len (.t 5), none, false⟩,
 ⟨(some 7), .bin .gtr (.t 6) (.c (.int .i64 (40))), none, false⟩])
 (.cond (.t 7)
 (.seq
 (.ops [⟨(some 2), .mov (.c (.bool true)), none, false⟩])
 .ret)
 .skip))
 (.seq
 (.seq
 (.ops [⟨(some 3), .mov (.c (.int .i64 (0))), none, false⟩])
 (.block 0
 (.loop [0, 3]
 (.seq
 (.seq
 (.ops [⟨(some 8), .mov (.t 3), none, false⟩,
 ⟨(some 9), .mov (.t 0), none, false⟩,
 ⟨(some 10), .len (.t 9), none, false⟩,
 ⟨(some 11), .bin .lss (.t 8) (.t 10), none, false⟩])
 (.cond (.t 11)
 .skip
 (.exit 0)))
 (.seq
 (.block 1
 (.seq
 (.seq
 (.ops [⟨(some 14), .mov (.t 0), none, false⟩,
 ⟨(some 15), .mov (.t 3), none, false⟩,
 ⟨(some 16), .iaddr 4 (.t 14) (.t 15), none, false⟩,
 ⟨(some 17), .faddr 3 (.t 16), none, false⟩,
 ⟨(some 18), .load false 1 (.t 17), none, false⟩,
 ⟨(some 19), .len (.t 18), none, false⟩,
 ⟨(some 20), .bin .gtr (.t 19) (.c (.int .i64 (20))), none, false⟩])
 (.cond (.t 20)
 (.seq
 (.ops [⟨(some 2), .mov (.c (.bool true)), none, false⟩])
 .ret)
 .skip))
 (.seq
 (.ops [⟨(some 4), .mov (.c (.int .i64 (0))), none, false⟩])
 (.block 2
 (.loop [0, 3, 4]
 (.seq
 (.seq
 (.ops [⟨(some 21), .mov (.t 4), none, false⟩,
 ⟨(some 22), .mov (.t 0), none, false⟩,
 ⟨(some 23), .mov (.t 3), none, false⟩,
 ⟨(some 24), .iaddr 4 (.t 22) (.t 23), none, false⟩,
 ⟨(some 25), .faddr 3 (.t 24), none, false⟩,
 ⟨(some 26), .load false 1 (.t 25), none, false⟩,
 ⟨(some 27), .len (.t 26), none, false⟩,
 ⟨(some 28), .bin .lss (.t 21) (.t 27), none, false⟩])
 (.cond (.t 28)
 .skip
 (.exit 2)))
 (.seq
 (.block 3
 (.seq
 (.ops [⟨(some 31), .mov (.t 0), none, false⟩,
 ⟨(some 32), .mov (.t 3), none, false⟩,
 ⟨(some 33), .iaddr 4 (.t 31) (.t 32), none, false⟩,
 ⟨(some 34), .faddr 3 (.t 33), none, false⟩,
 ⟨(some 35), .load false 1 (.t 34), none, false⟩,
 ⟨(some 36), .mov (.t 4), none, false⟩,
 ⟨(some 37), .iaddr 2 (.t 35) (.t 36), none, false⟩,
 ⟨(some 38), .faddr 0 (.t 37), none, false⟩,
 ⟨(some 39), .load false 1 (.t 38), none, false⟩,
 ⟨(some 40), .lenS (.t 39), none, false⟩,
 ⟨(some 41), .bin .gtr (.t 40) (.c (.int .i64 (100))), none, false⟩])
 (.cond (.t 41)
 (.seq
 (.ops [⟨(some 2), .mov (.c (.bool true)), none, false⟩])
 .ret)
 .skip)))
 (.ops [⟨(some 29), .mov (.t 4), none, false⟩,
 ⟨(some 30), .bin .add (.t 29) (.c (.int .i64 (1))), none, false⟩,
 ⟨(some 4), .mov (.t 30), none, false⟩]))))))))
 (.ops [⟨(some 12), .mov (.t 3), none, false⟩,
 ⟨(some 13), .bin .add (.t 12) (.c (.int .i64 (1))), none, false⟩,
 ⟨(some 3), .mov (.t 13), none, false⟩]))))))
 (.seq
 (.ops [⟨(some 2), .mov (.c (.bool false)), none, false⟩])
 .ret))))⟩
def n_wreckageref04_Great : List (List Nat) := [[0, 3], [0, 3, 4]]
theorem c_wreckageref04_Great : compFn Try.prog Try.f11 n_wreckageref04_Great = some a_wreckageref04_Great := by kernel_rfl
-- 12 wreckage/image.Find
def a_image_Find : AFunc := ⟨45, [.tmp 4, .tmp 5, .tmp 6],
 (.seq
 (.ops [⟨(some 2), .box 3 (.t 0), none, false⟩,
 ⟨(some 4), .mov (.c (.int .i64 (0))), none, false⟩,
 ⟨(some 5), .mov (.c (.int .i64 (0))), none, false⟩,
 ⟨(some 6), .mov (.c (.int .i64 (0))), none, false⟩])
 (.seq
 (.seq
 (.ops [⟨(some 9), .load true 3 (.t 2), none, false⟩,
 ⟨(some 10), .call (.c (.fn (.func F_image_Check) [] [])) [(.t 9)], none, false⟩,
 ⟨(some 7), .mov (.t 10), none, false⟩])
 (.seq
 (.ops [⟨(some 11), .mov (.t 7), none, false⟩,
 ⟨(some 12), .bin .neq (.t 11) (.c (.int .i64 (0))), none, false⟩])
 (.cond (.t 12)
 (.seq
 (.ops [⟨(some 13), .mov (.t 7), none, false⟩,
 ⟨(some 4), .mov (.c (.int .i64 (0))), none, false⟩,
 ⟨(some 5), .mov (.c (.int .i64 (0))), none, false⟩,
 ⟨(some 6), .mov (.t 13), none, false⟩])
 .ret)
 .skip)))
 (.seq
 (.ops [⟨(some 14), .mov (.t 1), none, false⟩,
 ⟨(some 15), .bin .shr (.t 14) (.c (.int .u64 (8))), none, false⟩,
 ⟨(some 16), .mov (.t 1), none, false⟩,
 ⟨(some 17), .bin .and (.t 16) (.c (.int .u64 (255))), none, false⟩,
 ⟨(some 18), .conv .i64 (.t 17), none, false⟩,
 ⟨(some 8), .mov (.t 15), none, false⟩,
 ⟨(some 5), .mov (.t 18), none, false⟩])
 (.seq
 (.seq
 (.ops [⟨(some 19), .mov (.t 8), none, false⟩,
 ⟨(some 20), .bin .eql (.t 19) (.c (.int .u64 (0))), none, false⟩,
 ⟨(some 21), .mov (.t 20), none, false⟩,
 ⟨(some 22), .mov (.t 8), (some (21, false)), false⟩,
 ⟨(some 23), .faddr 2 (.t 2), (some (21, false)), false⟩,
 ⟨(some 24), .load false 1 (.t 23), (some (21, false)), false⟩,
 ⟨(some 25), .len (.t 24), (some (21, false)), false⟩,
 ⟨(some 26), .conv .u64 (.t 25), (some (21, false)), false⟩,
 ⟨(some 27), .bin .gtr (.t 22) (.t 26), (some (21, false)), false⟩,
 ⟨(some 28), .pick (.t 21) (.c (.bool true)) (.t 27), none, false⟩,
 ⟨(some 29), .mov (.t 28), none, false⟩,
 ⟨(some 30), .mov (.t 5), (some (29, false)), false⟩,
 ⟨(some 31), .faddr 2 (.t 2), (some (29, false)), false⟩,
 ⟨(some 32), .load false 1 (.t 31), (some (29, false)), false⟩,
 ⟨(some 33), .mov (.t 8), (some (29, false)), false⟩,
 ⟨(some 34), .bin .sub (.t 33) (.c (.int .u64 (1))), (some (29, false)), false⟩,
 ⟨(some 35), .iaddr 7 (.t 32) (.t 34), (some (29, false)), false⟩,
 ⟨(some 36), .faddr 4 (.t 35), (some (29, false)), false⟩,
 ⟨(some 37), .load false 1 (.t 36), (some (29, false)), false⟩,
 ⟨(some 38), .len (.t 37), (some (29, false)), false⟩,
 ⟨(some 39), .bin .geq (.t 30) (.t 38), (some (29, false)), false⟩,
 ⟨(some 40), .pick (.t 29) (.c (.bool true)) (.t 39), none, false⟩])
 (.cond (.t 40)
 (.seq
 (.ops [⟨(some 4), .mov (.c (.int .i64 (0))), none, false⟩,
 ⟨(some 5), .mov (.c (.int .i64 (0))), none, false⟩,
 ⟨(some 6), .mov (.c (.int .i64 (6))), none, false⟩])
 .ret)
 .skip))
 (.seq
 (.ops [⟨(some 41), .mov (.t 8), none, false⟩,
 ⟨(some 42), .conv .i64 (.t 41), none, false⟩,
 ⟨(some 43), .bin .sub (.t 42) (.c (.int .i64 (1))), none, false⟩,
 ⟨(some 44), .mov (.t 5), none, false⟩,
 ⟨(some 4), .mov (.t 43), none, false⟩,
 ⟨(some 5), .mov (.t 44), none, false⟩,
 ⟨(some 6), .mov (.c (.int .i64 (0))), none, false⟩])
 .ret)))))⟩
def n_image_Find : List (List Nat) := []
theorem c_image_Find : compFn Try.prog Try.f12 n_image_Find = some a_image_Find := by kernel_rfl
-- 13 wreckage/wreckageref09.Find
def a_wreckageref09_Find : AFunc := ⟨27, [.tmp 4, .tmp 5, .tmp 6],
 (.seq
 (.ops [⟨(some 2), .box 3 (.t 0), none, false⟩,
 ⟨(some 4), .mov (.c (.int .i64 (0))), none, false⟩,
 ⟨(some 5), .mov (.c (.int .i64 (0))), none, false⟩,
 ⟨(some 6), .mov (.c (.int .i64 (0))), none, false⟩])
 (.seq
 (.seq
 (.ops [⟨(some 11), .load true 3 (.t 2), none, false⟩,
 ⟨(some 12), .call (.c (.fn (.func F_wreckageref09_Check) [] [])) [(.t 11)], none, false⟩,
 ⟨(some 7), .mov (.t 12), none, false⟩])
 (.seq
 (.ops [⟨(some 13), .mov (.t 7), none, false⟩,
 ⟨(some 14), .bin .neq (.t 13) (.c (.int .i64 (0))), none, false⟩])
 (.cond (.t 14)
 (.seq
 (.ops [⟨(some 15), .mov (.t 7), none, false⟩,
 ⟨(some 4), .mov (.c (.int .i64 (0))), none, false⟩,
 ⟨(some 5), .mov (.c (.int .i64 (0))), none, false⟩,
 ⟨(some 6), .mov (.t 15), none, false⟩])
 .ret)
 .skip)))
 (.seq
 (.ops [⟨(some 17), .load true 3 (.t 2), none, false⟩,
 ⟨(some 18), .mov (.t 1), none, false⟩,
 ⟨(some 19), .call (.c (.fn (.func F_wreckageref09_Where) [] [])) [(.t 17), (.t 18)], none, false⟩,
 ⟨(some 16), .mov (.t 19), none, false⟩,
 ⟨(some 20), .extract (.t 16) 0, none, false⟩,
 ⟨(some 21), .extract (.t 16) 1, none, false⟩,
 ⟨(some 22), .extract (.t 16) 2, none, false⟩,
 ⟨(some 8), .mov (.t 20), none, false⟩,
 ⟨(some 9), .mov (.t 21), none, false⟩,
 ⟨(some 10), .mov (.t 22), none, false⟩])
 (.seq
 (.seq
 (.ops [⟨(some 23), .mov (.t 10), none, false⟩,
 ⟨(some 24), .un .not (.t 23), none, false⟩])
 (.cond (.t 24)
 (.seq
 (.ops [⟨(some 4), .mov (.c (.int .i64 (0))), none, false⟩,
 ⟨(some 5), .mov (.c (.int .i64 (0))), none, false⟩,
 ⟨(some 6), .mov (.c (.int .i64 (6))), none, false⟩])
 .ret)
 .skip))
 (.seq
 (.ops [⟨(some 25), .mov (.t 8), none, false⟩,
 ⟨(some 26), .mov (.t 9), none, false⟩,
 ⟨(some 4), .mov (.t 25), none, false⟩,
 ⟨(some 5), .mov (.t 26), none, false⟩,
 ⟨(some 6), .mov (.c (.int .i64 (0))), none, false⟩])
 .ret)))))⟩
def n_wreckageref09_Find : List (List Nat) := []
theorem c_wreckageref09_Find : compFn Try.prog Try.f13 n_wreckageref09_Find = some a_wreckageref09_Find := by kernel_rfl
-- 14 wreckage/image.Check
def a_image_Check : AFunc := ⟨11, [.tmp 2],
 (.seq
 (.ops [⟨(some 1), .box 3 (.t 0), none, false⟩,
 ⟨(some 2), .mov (.c (.int .i64 (0))), none, false⟩])
 (.seq
 (.ops [⟨(some 6), .load true 3 (.t 1), none, false⟩,
 ⟨(some 7), .call (.c (.fn (.func F_image_Encode) [] [])) [(.t 6)], none, false⟩,
 ⟨(some 5), .mov (.t 7), none, false⟩,
 ⟨(some 8), .extract (.t 5) 0, none, false⟩,
 ⟨(some 9), .extract (.t 5) 1, none, false⟩,
 ⟨(some 3), .mov (.t 8), none, false⟩,
 ⟨(some 4), .mov (.t 9), none, false⟩])
 (.seq
 (.ops [⟨(some 10), .mov (.t 4), none, false⟩,
 ⟨(some 2), .mov (.t 10), none, false⟩])
 .ret)))⟩
def n_image_Check : List (List Nat) := []
theorem c_image_Check : compFn Try.prog Try.f14 n_image_Check = some a_image_Check := by kernel_rfl
-- 15 wreckage/tables.At
def a_tables_At : AFunc := ⟨33, [.tmp 6, .tmp 7],
 (.seq
 (.ops [⟨(some 3), .box 1 (.t 0), none, false⟩,
 ⟨(some 5), .box 1 (.t 2), none, false⟩,
 ⟨(some 6), .mov (.c (.int .u64 (0))), none, false⟩,
 ⟨(some 7), .mov (.c (.int .i64 (0))), none, false⟩])
 (.seq
 (.seq
 (.ops [⟨(some 10), .load false 1 (.t 3), none, false⟩,
 ⟨(some 11), .mov (.t 1), none, false⟩,
 ⟨(some 12), .call (.c (.fn (.func F_tables_Check) [] [])) [(.t 10), (.t 11)], none, false⟩,
 ⟨(some 8), .mov (.t 12), none, false⟩])
 (.seq
 (.ops [⟨(some 13), .mov (.t 8), none, false⟩,
 ⟨(some 14), .bin .neq (.t 13) (.c (.int .i64 (0))), none, false⟩])
 (.cond (.t 14)
 (.seq
 (.ops [⟨(some 15), .mov (.t 8), none, false⟩,
 ⟨(some 6), .mov (.c (.int .u64 (0))), none, false⟩,
 ⟨(some 7), .mov (.t 15), none, false⟩])
 .ret)
 .skip)))
 (.seq
 (.seq
 (.ops [⟨(some 16), .load false 1 (.t 5), none, false⟩,
 ⟨(some 17), .bin .lss (.t 16) (.c (.int .i64 (0))), none, false⟩,
 ⟨(some 18), .mov (.t 17), none, false⟩,
 ⟨(some 19), .load false 1 (.t 5), (some (18, false)), false⟩,
 ⟨(some 20), .mov (.t 1), (some (18, false)), false⟩,
 ⟨(some 21), .bin .geq (.t 19) (.t 20), (some (18, false)), false⟩,
 ⟨(some 22), .pick (.t 18) (.c (.bool true)) (.t 21), none, false⟩])
 (.cond (.t 22)
 (.seq
 (.ops [⟨(some 6), .mov (.c (.int .u64 (0))), none, false⟩,
 ⟨(some 7), .mov (.c (.int .i64 (2))), none, false⟩])
 .ret)
 .skip))
 (.seq
 (.ops [⟨(some 23), .load false 1 (.t 3), none, false⟩,
 ⟨(some 24), .len (.t 23), none, false⟩,
 ⟨(some 25), .mkfn (.func F_tables_At_1) [] [(.t 3), (.t 5)], none, false⟩,
 ⟨(some 26), .call (.c (.fn (.func F_sort_Search) [] [])) [(.t 24), (.t 25)], none, false⟩,
 ⟨(some 9), .mov (.t 26), none, false⟩])
 (.seq
 (.ops [⟨(some 27), .load false 1 (.t 3), none, false⟩,
 ⟨(some 28), .mov (.t 9), none, false⟩,
 ⟨(some 29), .bin .sub (.t 28) (.c (.int .i64 (1))), none, false⟩,
 ⟨(some 30), .iaddr 2 (.t 27) (.t 29), none, false⟩,
 ⟨(some 31), .faddr 1 (.t 30), none, false⟩,
 ⟨(some 32), .load false 1 (.t 31), none, false⟩,
 ⟨(some 6), .mov (.t 32), none, false⟩,
 ⟨(some 7), .mov (.c (.int .i64 (0))), none, false⟩])
 .ret)))))⟩
def n_tables_At : List (List Nat) := []
theorem c_tables_At : compFn Try.prog Try.f15 n_tables_At = some a_tables_At := by kernel_rfl
-- 16 wreckage/wreckageref09.Check
def a_wreckageref09_Check : AFunc := ⟨10, [.tmp 2],
 (.seq
 (.ops [⟨(some 1), .box 3 (.t 0), none, false⟩,
 ⟨(some 2), .mov (.c (.int .i64 (0))), none, false⟩])
 (.seq
 (.seq
 (.ops [⟨(some 3), .load true 3 (.t 1), none, false⟩,
 ⟨(some 4), .call (.c (.fn (.func F_wreckageref09_Fine) [] [])) [(.t 3)], none, false⟩,
 ⟨(some 5), .un .not (.t 4), none, false⟩])
 (.cond (.t 5)
 (.seq
 (.ops [⟨(some 2), .mov (.c (.int .i64 (8))), none, false⟩])
 .ret)
 .skip))
 (.seq
 (.seq
 (.ops [⟨(some 6), .load true 3 (.t 1), none, false⟩,
 ⟨(some 7), .call (.c (.fn (.func F_wreckageref09_Coded) [] [])) [(.t 6)], none, false⟩,
 ⟨(some 8), .len (.t 7), none, false⟩,
 ⟨(some 9), .bin .gtr (.t 8) (.c (.int .i64 (20000))), none, false⟩])
 (.cond (.t 9)
 (.seq
 (.ops [⟨(some 2), .mov (.c (.int .i64 (4))), none, false⟩])
 .ret)
 .skip))
 (.seq
 (.ops [⟨(some 2), .mov (.c (.int .i64 (0))), none, false⟩])
 .ret))))⟩
def n_wreckageref09_Check : List (List Nat) := []
theorem c_wreckageref09_Check : compFn Try.prog Try.f16 n_wreckageref09_Check = some a_wreckageref09_Check := by kernel_rfl
-- 17 wreckage/wreckageref08.At
def a_wreckageref08_At : AFunc := ⟨25, [.tmp 6, .tmp 7],
 (.seq
 (.ops [⟨(some 6), .mov (.c (.int .u64 (0))), none, false⟩,
 ⟨(some 7), .mov (.c (.int .i64 (0))), none, false⟩])
 (.seq
 (.seq
 (.ops [⟨(some 9), .mov (.t 0), none, false⟩,
 ⟨(some 10), .mov (.t 1), none, false⟩,
 ⟨(some 11), .call (.c (.fn (.func F_wreckageref08_Check) [] [])) [(.t 9), (.t 10)], none, false⟩,
 ⟨(some 8), .mov (.t 11), none, false⟩])
 (.seq
 (.ops [⟨(some 12), .mov (.t 8), none, false⟩,
 ⟨(some 13), .bin .neq (.t 12) (.c (.int .i64 (0))), none, false⟩])
 (.cond (.t 13)
 (.seq
 (.ops [⟨(some 14), .mov (.t 8), none, false⟩,
 ⟨(some 6), .mov (.c (.int .u64 (0))), none, false⟩,
 ⟨(some 7), .mov (.t 14), none, false⟩])
 .ret)
 .skip)))
 (.seq
 (.seq
 (.ops [⟨(some 15), .mov (.t 2), none, false⟩,
 ⟨(some 16), .bin .lss (.t 15) (.c (.int .i64 (0))), none, false⟩,
 ⟨(some 17), .mov (.t 16), none, false⟩,
 ⟨(some 18), .mov (.t 2), (some (17, false)), false⟩,
 ⟨(some 19), .mov (.t 1), (some (17, false)), false⟩,
 ⟨(some 20), .bin .geq (.t 18) (.t 19), (some (17, false)), false⟩,
 ⟨(some 21), .pick (.t 17) (.c (.bool true)) (.t 20), none, false⟩])
 (.cond (.t 21)
 (.seq
 (.ops [⟨(some 6), .mov (.c (.int .u64 (0))), none, false⟩,
 ⟨(some 7), .mov (.c (.int .i64 (2))), none, false⟩])
 .ret)
 .skip))
 (.seq
 (.ops [⟨(some 22), .mov (.t 0), none, false⟩,
 ⟨(some 23), .mov (.t 2), none, false⟩,
 ⟨(some 24), .call (.c (.fn (.func F_wreckageref08_Value) [] [])) [(.t 22), (.t 23)], none, false⟩,
 ⟨(some 6), .mov (.t 24), none, false⟩,
 ⟨(some 7), .mov (.c (.int .i64 (0))), none, false⟩])
 .ret))))⟩
def n_wreckageref08_At : List (List Nat) := []
theorem c_wreckageref08_At : compFn Try.prog Try.f17 n_wreckageref08_At = some a_wreckageref08_At := by kernel_rfl
-- 18 wreckage/wreckageref09.Where
def a_wreckageref09_Where : AFunc := ⟨39, [.tmp 4, .tmp 5, .tmp 6],
 (.seq
 (.ops [⟨(some 2), .box 3 (.t 0), none, false⟩,
 ⟨(some 4), .mov (.c (.int .i64 (0))), none, false⟩,
 ⟨(some 5), .mov (.c (.int .i64 (0))), none, false⟩,
 ⟨(some 6), .mov (.c (.bool false)), none, false⟩])
 (.seq
 (.seq
 (.ops [⟨(some 9), .mov (.t 1), none, false⟩,
 ⟨(some 10), .bin .lss (.t 9) (.c (.int .u64 (256))), none, false⟩,
 ⟨(some 11), .mov (.t 10), none, false⟩,
 ⟨(some 12), .mov (.t 1), (some (11, false)), false⟩,
 ⟨(some 13), .faddr 2 (.t 2), (some (11, false)), false⟩,
 ⟨(some 14), .load false 1 (.t 13), (some (11, false)), false⟩,
 ⟨(some 15), .len (.t 14), (some (11, false)), false⟩,
 ⟨(some 16), .bin .add (.t 15) (.c (.int .i64 (1))), (some (11, false)), false⟩,
 ⟨(some 17), .bin .mul (.c (.int .i64 (256))) (.t 16), (some (11, false)), false⟩,
 ⟨(some 18), .conv .u64 (.t 17), (some (11, false)), false⟩,
 ⟨(some 19), .bin .geq (.t 12) (.t 18), (some (11, false)), false⟩,
 ⟨(some 20), .pick (.t 11) (.c (.bool true)) (.t 19), none, false⟩])
 (.cond (.t 20)
 (.seq
 (.ops [⟨(some 4), .mov (.c (.int .i64 (0))), none, false⟩,
 ⟨(some 5), .mov (.c (.int .i64 (0))), none, false⟩,
 ⟨(some 6), .mov (.c (.bool false)), none, false⟩])
 .ret)
 .skip))
 (.seq
 (.ops [⟨(some 21), .mov (.t 1), none, false⟩,
 ⟨(some 22), .bin .quo (.t 21) (.c (.int .u64 (256))), none, false⟩,
 ⟨(some 23), .conv .i64 (.t 22), none, false⟩,
 ⟨(some 24), .bin .sub (.t 23) (.c (.int .i64 (1))), none, false⟩,
 ⟨(some 25), .mov (.t 1), none, false⟩,
 ⟨(some 26), .bin .rem (.t 25) (.c (.int .u64 (256))), none, false⟩,
 ⟨(some 27), .conv .i64 (.t 26), none, false⟩,
 ⟨(some 7), .mov (.t 24), none, false⟩,
 ⟨(some 8), .mov (.t 27), none, false⟩])
 (.seq
 (.seq
 (.ops [⟨(some 28), .mov (.t 8), none, false⟩,
 ⟨(some 29), .faddr 2 (.t 2), none, false⟩,
 ⟨(some 30), .load false 1 (.t 29), none, false⟩,
 ⟨(some 31), .mov (.t 7), none, false⟩,
 ⟨(some 32), .iaddr 7 (.t 30) (.t 31), none, false⟩,
 ⟨(some 33), .faddr 4 (.t 32), none, false⟩,
 ⟨(some 34), .load false 1 (.t 33), none, false⟩,
 ⟨(some 35), .len (.t 34), none, false⟩,
 ⟨(some 36), .bin .geq (.t 28) (.t 35), none, false⟩])
 (.cond (.t 36)
 (.seq
 (.ops [⟨(some 4), .mov (.c (.int .i64 (0))), none, false⟩,
 ⟨(some 5), .mov (.c (.int .i64 (0))), none, false⟩,
 ⟨(some 6), .mov (.c (.bool false)), none, false⟩])
 .ret)
 .skip))
 (.seq
 (.ops [⟨(some 37), .mov (.t 7), none, false⟩,
 ⟨(some 38), .mov (.t 8), none, false⟩,
 ⟨(some 4), .mov (.t 37), none, false⟩,
 ⟨(some 5), .mov (.t 38), none, false⟩,
 ⟨(some 6), .mov (.c (.bool true)), none, false⟩])
 .ret)))))⟩
def n_wreckageref09_Where : List (List Nat) := []
theorem c_wreckageref09_Where : compFn Try.prog Try.f18 n_wreckageref09_Where = some a_wreckageref09_Where := by kernel_rfl
-- 19 wreckage/image.Encode
def a_image_Encode : AFunc := ⟨53, [.tmp 2, .tmp 3],
 (.seq
 (.ops [⟨(some 1), .box 3 (.t 0), none, false⟩,
 ⟨(some 2), .mov (.c (.nils)), none, false⟩,
 ⟨(some 3), .mov (.c (.int .i64 (0))), none, false⟩])
 (.seq
 (.seq
 (.ops [⟨(some 10), .load true 3 (.t 1), none, false⟩,
 ⟨(some 11), .call (.c (.fn (.func F_image_fine) [] [])) [(.t 10)], none, false⟩,
 ⟨(some 12), .un .not (.t 11), none, false⟩])
 (.cond (.t 12)
 (.seq
 (.ops [⟨(some 2), .mov (.c (.nils)), none, false⟩,
 ⟨(some 3), .mov (.c (.int .i64 (8))), none, false⟩])
 .ret)
 .skip))
 (.seq
 (.ops [⟨(some 4), .alloc [.nils], none, false⟩])
 (.seq
 (.ops [⟨(some 13), .faddr 0 (.t 1), none, false⟩,
 ⟨(some 14), .load false 1 (.t 13), none, false⟩,
 ⟨(some 15), .call (.c (.fn (.func F_image_writer_types) [] [])) [(.t 4), (.t 14)], none, false⟩])
 (.seq
 (.ops [⟨(some 16), .faddr 1 (.t 1), none, false⟩,
 ⟨(some 17), .load false 1 (.t 16), none, false⟩,
 ⟨(some 18), .len (.t 17), none, false⟩,
 ⟨(some 19), .call (.c (.fn (.func F_image_writer_number) [] [])) [(.t 4), (.t 18)], none, false⟩])
 (.seq
 (.seq
 (.ops [⟨(some 20), .faddr 1 (.t 1), none, false⟩,
 ⟨(some 21), .load false 1 (.t 20), none, false⟩,
 ⟨(some 22), .len (.t 21), none, false⟩,
 ⟨(some 23), .mov (.c (.int .i64 (0))), none, false⟩])
 (.block 0
 (.loop [1, 4, 21, 22, 23]
 (.seq
 (.ops [⟨(some 24), .bin .lss (.t 23) (.t 22), none, false⟩])
 (.seq
 (.cond (.t 24)
 .skip
 (.exit 0))
 (.seq
 (.block 1
 (.seq
 (.ops [⟨(some 25), .iaddr 1 (.t 21) (.t 23), none, false⟩,
 ⟨(some 26), .load false 1 (.t 25), none, false⟩,
 ⟨(some 6), .mov (.t 26), none, false⟩])
 (.ops [⟨(some 27), .mov (.t 6), none, false⟩,
 ⟨(some 28), .call (.c (.fn (.func F_image_writer_text) [] [])) [(.t 4), (.t 27)], none, false⟩])))
 (.ops [⟨(some 29), .bin .add (.t 23) (.c (.int .i64 (1))), none, false⟩,
 ⟨(some 23), .mov (.t 29), none, false⟩])))))))
 (.seq
 (.ops [⟨(some 30), .faddr 2 (.t 1), none, false⟩,
 ⟨(some 31), .load false 1 (.t 30), none, false⟩,
 ⟨(some 32), .len (.t 31), none, false⟩,
 ⟨(some 33), .call (.c (.fn (.func F_image_writer_number) [] [])) [(.t 4), (.t 32)], none, false⟩])
 (.seq
 (.seq
 (.ops [⟨(some 34), .faddr 2 (.t 1), none, false⟩,
 ⟨(some 35), .load false 1 (.t 34), none, false⟩,
 ⟨(some 36), .len (.t 35), none, false⟩,
 ⟨(some 37), .mov (.c (.int .i64 (0))), none, false⟩])
 (.block 2
 (.loop [4, 35, 36, 37]
 (.seq
 (.ops [⟨(some 38), .bin .lss (.t 37) (.t 36), none, false⟩])
 (.seq
 (.cond (.t 38)
 .skip
 (.exit 2))
 (.seq
 (.block 3
 (.seq
 (.ops [⟨(some 39), .iaddr 7 (.t 35) (.t 37), none, false⟩,
 ⟨(some 40), .load true 7 (.t 39), none, false⟩,
 ⟨(some 8), .alloc [.str [], .int .i64 (0), .int .i64 (0), .nils, .nils, .nils, .nils], none, false⟩,
 ⟨none, .store 7 (.t 8) (.t 40), none, false⟩])
 (.seq
 (.ops [⟨(some 41), .load true 7 (.t 8), none, false⟩,
 ⟨(some 42), .call (.c (.fn (.func F_image_writer_function) [] [])) [(.t 4), (.t 41)], none, false⟩,
 ⟨(some 9), .mov (.t 42), none, false⟩])
 (.seq
 (.ops [⟨(some 43), .mov (.t 9), none, false⟩,
 ⟨(some 44), .bin .neq (.t 43) (.c (.int .i64 (0))), none, false⟩])
 (.cond (.t 44)
 (.seq
 (.ops [⟨(some 45), .mov (.t 9), none, false⟩,
 ⟨(some 2), .mov (.c (.nils)), none, false⟩,
 ⟨(some 3), .mov (.t 45), none, false⟩])
 .ret)
 .skip)))))
 (.ops [⟨(some 46), .bin .add (.t 37) (.c (.int .i64 (1))), none, false⟩,
 ⟨(some 37), .mov (.t 46), none, false⟩])))))))
 (.seq
 (.seq
 (.ops [⟨(some 47), .faddr 0 (.t 4), none, false⟩,
 ⟨(some 48), .load false 1 (.t 47), none, false⟩,
 ⟨(some 49), .len (.t 48), none, false⟩,
 ⟨(some 50), .bin .gtr (.t 49) (.c (.int .i64 (20000))), none, false⟩])
 (.cond (.t 50)
 (.seq
 (.ops [⟨(some 2), .mov (.c (.nils)), none, false⟩,
 ⟨(some 3), .mov (.c (.int .i64 (4))), none, false⟩])
 .ret)
 .skip))
 (.seq
 (.ops [⟨(some 51), .faddr 0 (.t 4), none, false⟩,
 ⟨(some 52), .load false 1 (.t 51), none, false⟩,
 ⟨(some 2), .mov (.t 52), none, false⟩,
 ⟨(some 3), .mov (.c (.int .i64 (0))), none, false⟩])
 .ret))))))))))⟩
def n_image_Encode : List (List Nat) := [[1, 4, 21, 22, 23], [4, 35, 36, 37]]
theorem c_image_Encode : compFn Try.prog Try.f19 n_image_Encode = some a_image_Encode := by kernel_rfl
-- 20 wreckage/tables.Check
def a_tables_Check : AFunc := ⟨15, [.tmp 4],
 (.seq
 (.ops [⟨(some 4), .mov (.c (.int .i64 (0))), none, false⟩])
 (.seq
 (.seq
 (.ops [⟨(some 6), .mov (.t 1), none, false⟩,
 ⟨(some 7), .call (.c (.fn (.func F_tables_counted) [] [])) [(.t 6)], none, false⟩,
 ⟨(some 5), .mov (.t 7), none, false⟩])
 (.seq
 (.ops [⟨(some 8), .mov (.t 5), none, false⟩,
 ⟨(some 9), .bin .neq (.t 8) (.c (.int .i64 (0))), none, false⟩])
 (.cond (.t 9)
 (.seq
 (.ops [⟨(some 10), .mov (.t 5), none, false⟩,
 ⟨(some 4), .mov (.t 10), none, false⟩])
 .ret)
 .skip)))
 (.seq
 (.seq
 (.ops [⟨(some 11), .mov (.t 0), none, false⟩,
 ⟨(some 12), .mov (.t 1), none, false⟩,
 ⟨(some 13), .call (.c (.fn (.func F_tables_fine) [] [])) [(.t 11), (.t 12)], none, false⟩,
 ⟨(some 14), .un .not (.t 13), none, false⟩])
 (.cond (.t 14)
 (.seq
 (.ops [⟨(some 4), .mov (.c (.int .i64 (8))), none, false⟩])
 .ret)
 .skip))
 (.seq
 (.ops [⟨(some 4), .mov (.c (.int .i64 (0))), none, false⟩])
 .ret))))⟩
def n_tables_Check : List (List Nat) := []
theorem c_tables_Check : compFn Try.prog Try.f20 n_tables_Check = some a_tables_Check := by kernel_rfl
-- 21 sort.Search
def a_sort_Search : AFunc := ⟨26, [.tmp 4],
 (.seq
 (.ops [⟨(some 4), .mov (.c (.int .i64 (0))), none, false⟩])
 (.seq
 (.ops [⟨(some 8), .mov (.t 0), none, false⟩,
 ⟨(some 5), .mov (.c (.int .i64 (0))), none, false⟩,
 ⟨(some 6), .mov (.t 8), none, false⟩])
 (.seq
 (.block 0
 (.loop [1, 5, 6]
 (.seq
 (.seq
 (.ops [⟨(some 9), .mov (.t 5), none, false⟩,
 ⟨(some 10), .mov (.t 6), none, false⟩,
 ⟨(some 11), .bin .lss (.t 9) (.t 10), none, false⟩])
 (.cond (.t 11)
 .skip
 (.exit 0)))
 (.block 1
 (.seq
 (.ops [⟨(some 12), .mov (.t 5), none, false⟩,
 ⟨(some 13), .mov (.t 6), none, false⟩,
 ⟨(some 14), .bin .add (.t 12) (.t 13), none, false⟩,
 ⟨(some 15), .conv .u64 (.t 14), none, false⟩,
 ⟨(some 16), .bin .shr (.t 15) (.c (.int .u64 (1))), none, false⟩,
 ⟨(some 17), .conv .i64 (.t 16), none, false⟩,
 ⟨(some 7), .mov (.t 17), none, false⟩])
 (.seq
 (.ops [⟨(some 18), .mov (.t 1), none, false⟩,
 ⟨(some 19), .mov (.t 7), none, false⟩,
 ⟨(some 20), .call (.t 18) [(.t 19)], none, false⟩,
 ⟨(some 21), .un .not (.t 20), none, false⟩])
 (.cond (.t 21)
 (.ops [⟨(some 22), .mov (.t 7), none, false⟩,
 ⟨(some 23), .bin .add (.t 22) (.c (.int .i64 (1))), none, false⟩,
 ⟨(some 5), .mov (.t 23), none, false⟩])
 (.ops [⟨(some 24), .mov (.t 7), none, false⟩,
 ⟨(some 6), .mov (.t 24), none, false⟩]))))))))
 (.seq
 (.ops [⟨(some 25), .mov (.t 5), none, false⟩,
 ⟨(some 4), .mov (.t 25), none, false⟩])
 .ret))))⟩
def n_sort_Search : List (List Nat) := [[1, 5, 6]]
theorem c_sort_Search : compFn Try.prog Try.f21 n_sort_Search = some a_sort_Search := by kernel_rfl
-- 22 wreckage/tables.At$1
def a_tables_At_1 : AFunc := ⟨12, [.tmp 4],
 (.seq
 (.ops [⟨(some 4), .mov (.c (.bool false)), none, false⟩])
 (.seq
 (.draw [⟨(some 5), .load false 1 (.t 1), none, false⟩,
 ⟨(some 6), .mov (.t 0), none, false⟩,
 ⟨(some 7), .iaddr 2 (.t 5) (.t 6), none, false⟩,
 ⟨(some 8), .faddr 0 (.t 7), none, false⟩,
 ⟨(some 9), .load false 1 (.t 8), none, false⟩,
 ⟨(some 10), .load false 1 (.t 2), none, false⟩,
 ⟨(some 11), .bin .gtr (.t 9) (.t 10), none, false⟩,
 ⟨(some 4), .mov (.t 11), none, false⟩])
 .ret))⟩
def n_tables_At_1 : List (List Nat) := []
theorem c_tables_At_1 : compFn Try.prog Try.f22 n_tables_At_1 = some a_tables_At_1 := by kernel_rfl
-- 23 wreckage/wreckageref09.Fine
def a_wreckageref09_Fine : AFunc := ⟨96, [.tmp 2],
 (.seq
 (.ops [⟨(some 1), .box 3 (.t 0), none, false⟩,
 ⟨(some 2), .mov (.c (.bool false)), none, false⟩])
 (.seq
 (.seq
 (.ops [⟨(some 9), .faddr 0 (.t 1), none, false⟩,
 ⟨(some 10), .load false 1 (.t 9), none, false⟩,
 ⟨(some 11), .call (.c (.fn (.func F_wreckageref04_Check) [] [])) [(.t 10)], none, false⟩,
 ⟨(some 12), .bin .neq (.t 11) (.c (.int .i64 (0))), none, false⟩,
 ⟨(some 13), .mov (.t 12), none, false⟩,
 ⟨(some 14), .faddr 1 (.t 1), (some (13, false)), false⟩,
 ⟨(some 15), .load false 1 (.t 14), (some (13, false)), false⟩,
 ⟨(some 16), .len (.t 15), (some (13, false)), false⟩,
 ⟨(some 17), .bin .gtr (.t 16) (.c (.int .i64 (32))), (some (13, false)), false⟩,
 ⟨(some 18), .pick (.t 13) (.c (.bool true)) (.t 17), none, false⟩,
 ⟨(some 19), .mov (.t 18), none, false⟩,
 ⟨(some 20), .faddr 2 (.t 1), (some (19, false)), false⟩,
 ⟨(some 21), .load false 1 (.t 20), (some (19, false)), false⟩,
 ⟨(some 22), .len (.t 21), (some (19, false)), false⟩,
 ⟨(some 23), .bin .lss (.t 22) (.c (.int .i64 (1))), (some (19, false)), false⟩,
 ⟨(some 24), .pick (.t 19) (.c (.bool true)) (.t 23), none, false⟩,
 ⟨(some 25), .mov (.t 24), none, false⟩,
 ⟨(some 26), .faddr 2 (.t 1), (some (25, false)), false⟩,
 ⟨(some 27), .load false 1 (.t 26), (some (25, false)), false⟩,
 ⟨(some 28), .len (.t 27), (some (25, false)), false⟩,
 ⟨(some 29), .bin .gtr (.t 28) (.c (.int .i64 (32))), (some (25, false)), false⟩,
 ⟨(some 30), .pick (.t 25) (.c (.bool true)) (.t 29), none, false⟩])
 (.cond (.t 30)
 (.seq
 (.ops [⟨(some 2), .mov (.c (.bool false)), none, false⟩])
 .ret)
 .skip))
 (.seq
 (.ops [⟨(some 32), .faddr 0 (.t 1), none, false⟩,
 ⟨(some 33), .load false 1 (.t 32), none, false⟩,
 ⟨(some 34), .call (.c (.fn (.func F_wreckageref05_Sizes) [] [])) [(.t 33)], none, false⟩,
 ⟨(some 31), .mov (.t 34), none, false⟩,
 ⟨(some 35), .extract (.t 31) 0, none, false⟩,
 ⟨(some 36), .extract (.t 31) 1, none, false⟩,
 ⟨(some 3), .mov (.t 35), none, false⟩,
 ⟨(some 4), .mov (.t 36), none, false⟩])
 (.seq
 (.seq
 (.ops [⟨(some 5), .mov (.c (.int .i64 (0))), none, false⟩])
 (.block 0
 (.loop [1, 3, 5]
 (.seq
 (.seq
 (.ops [⟨(some 37), .mov (.t 5), none, false⟩,
 ⟨(some 38), .mov (.t 3), none, false⟩,
 ⟨(some 39), .len (.t 38), none, false⟩,
 ⟨(some 40), .bin .lss (.t 37) (.t 39), none, false⟩])
 (.cond (.t 40)
 .skip
 (.exit 0)))
 (.seq
 (.block 1
 (.seq
 (.ops [⟨(some 43), .mov (.t 3), none, false⟩,
 ⟨(some 44), .mov (.t 5), none, false⟩,
 ⟨(some 45), .iaddr 1 (.t 43) (.t 44), none, false⟩,
 ⟨(some 46), .load false 1 (.t 45), none, false⟩,
 ⟨(some 47), .bin .gtr (.t 46) (.c (.int .i64 (256))), none, false⟩])
 (.cond (.t 47)
 (.seq
 (.ops [⟨(some 2), .mov (.c (.bool false)), none, false⟩])
 .ret)
 .skip)))
 (.ops [⟨(some 41), .mov (.t 5), none, false⟩,
 ⟨(some 42), .bin .add (.t 41) (.c (.int .i64 (1))), none, false⟩,
 ⟨(some 5), .mov (.t 42), none, false⟩]))))))
 (.seq
 (.seq
 (.ops [⟨(some 6), .mov (.c (.int .i64 (0))), none, false⟩])
 (.block 2
 (.loop [1, 6]
 (.seq
 (.seq
 (.ops [⟨(some 48), .mov (.t 6), none, false⟩,
 ⟨(some 49), .faddr 1 (.t 1), none, false⟩,
 ⟨(some 50), .load false 1 (.t 49), none, false⟩,
 ⟨(some 51), .len (.t 50), none, false⟩,
 ⟨(some 52), .bin .lss (.t 48) (.t 51), none, false⟩])
 (.cond (.t 52)
 .skip
 (.exit 2)))
 (.seq
 (.block 3
 (.seq
 (.ops [⟨(some 55), .faddr 1 (.t 1), none, false⟩,
 ⟨(some 56), .load false 1 (.t 55), none, false⟩,
 ⟨(some 57), .mov (.t 6), none, false⟩,
 ⟨(some 58), .iaddr 1 (.t 56) (.t 57), none, false⟩,
 ⟨(some 59), .load false 1 (.t 58), none, false⟩,
 ⟨(some 60), .lenS (.t 59), none, false⟩,
 ⟨(some 61), .bin .gtr (.t 60) (.c (.int .i64 (64))), none, false⟩])
 (.cond (.t 61)
 (.seq
 (.ops [⟨(some 2), .mov (.c (.bool false)), none, false⟩])
 .ret)
 .skip)))
 (.ops [⟨(some 53), .mov (.t 6), none, false⟩,
 ⟨(some 54), .bin .add (.t 53) (.c (.int .i64 (1))), none, false⟩,
 ⟨(some 6), .mov (.t 54), none, false⟩]))))))
 (.seq
 (.seq
 (.ops [⟨(some 7), .mov (.c (.int .i64 (0))), none, false⟩])
 (.block 4
 (.loop [1, 7]
 (.seq
 (.seq
 (.ops [⟨(some 62), .mov (.t 7), none, false⟩,
 ⟨(some 63), .faddr 2 (.t 1), none, false⟩,
 ⟨(some 64), .load false 1 (.t 63), none, false⟩,
 ⟨(some 65), .len (.t 64), none, false⟩,
 ⟨(some 66), .bin .lss (.t 62) (.t 65), none, false⟩])
 (.cond (.t 66)
 .skip
 (.exit 4)))
 (.seq
 (.block 5
 (.seq
 (.seq
 (.draw [⟨(some 69), .faddr 0 (.t 1), none, false⟩,
 ⟨(some 70), .load false 1 (.t 69), none, false⟩,
 ⟨(some 71), .faddr 2 (.t 1), none, false⟩,
 ⟨(some 72), .load false 1 (.t 71), none, false⟩,
 ⟨(some 73), .mov (.t 7), none, false⟩,
 ⟨(some 74), .iaddr 7 (.t 72) (.t 73), none, false⟩,
 ⟨(some 75), .load true 7 (.t 74), none, false⟩,
 ⟨(some 76), .call (.c (.fn (.func F_wreckageref09_function) [] [])) [(.t 70), (.t 75)], none, false⟩,
 ⟨(some 77), .un .not (.t 76), none, false⟩])
 (.cond (.t 77)
 (.seq
 (.ops [⟨(some 2), .mov (.c (.bool false)), none, false⟩])
 .ret)
 .skip))
 (.seq
 (.ops [⟨(some 8), .mov (.c (.int .i64 (0))), none, false⟩])
 (.block 6
 (.loop [1, 7, 8]
 (.seq
 (.seq
 (.ops [⟨(some 78), .mov (.t 8), none, false⟩,
 ⟨(some 79), .mov (.t 7), none, false⟩,
 ⟨(some 80), .bin .lss (.t 78) (.t 79), none, false⟩])
 (.cond (.t 80)
 .skip
 (.exit 6)))
 (.seq
 (.block 7
 (.seq
 (.draw [⟨(some 83), .faddr 2 (.t 1), none, false⟩,
 ⟨(some 84), .load false 1 (.t 83), none, false⟩,
 ⟨(some 85), .mov (.t 8), none, false⟩,
 ⟨(some 86), .iaddr 7 (.t 84) (.t 85), none, false⟩,
 ⟨(some 87), .faddr 0 (.t 86), none, false⟩,
 ⟨(some 88), .load false 1 (.t 87), none, false⟩,
 ⟨(some 89), .faddr 2 (.t 1), none, false⟩,
 ⟨(some 90), .load false 1 (.t 89), none, false⟩,
 ⟨(some 91), .mov (.t 7), none, false⟩,
 ⟨(some 92), .iaddr 7 (.t 90) (.t 91), none, false⟩,
 ⟨(some 93), .faddr 0 (.t 92), none, false⟩,
 ⟨(some 94), .load false 1 (.t 93), none, false⟩,
 ⟨(some 95), .bin .eql (.t 88) (.t 94), none, false⟩])
 (.cond (.t 95)
 (.seq
 (.ops [⟨(some 2), .mov (.c (.bool false)), none, false⟩])
 .ret)
 .skip)))
 (.ops [⟨(some 81), .mov (.t 8), none, false⟩,
 ⟨(some 82), .bin .add (.t 81) (.c (.int .i64 (1))), none, false⟩,
 ⟨(some 8), .mov (.t 82), none, false⟩]))))))))
 (.ops [⟨(some 67), .mov (.t 7), none, false⟩,
 ⟨(some 68), .bin .add (.t 67) (.c (.int .i64 (1))), none, false⟩,
 ⟨(some 7), .mov (.t 68), none, false⟩]))))))
 (.seq
 (.ops [⟨(some 2), .mov (.c (.bool true)), none, false⟩])
 .ret)))))))⟩
def n_wreckageref09_Fine : List (List Nat) := [[1, 3, 5], [1, 6], [1, 7], [1, 7, 8]]
theorem c_wreckageref09_Fine : compFn Try.prog Try.f23 n_wreckageref09_Fine = some a_wreckageref09_Fine := by kernel_rfl
-- 24 wreckage/wreckageref09.Coded
def a_wreckageref09_Coded : AFunc := ⟨148, [.tmp 2],
 (.seq
 (.ops [⟨(some 1), .box 3 (.t 0), none, false⟩,
 ⟨(some 2), .mov (.c (.nils)), none, false⟩])
 (.seq
 (.ops [⟨(some 10), .faddr 0 (.t 1), none, false⟩,
 ⟨(some 11), .load false 1 (.t 10), none, false⟩,
 ⟨(some 12), .len (.t 11), none, false⟩,
 ⟨(some 13), .call (.c (.fn (.func F_wreckageref09_number) [] [])) [(.t 12)], none, false⟩,
 ⟨(some 3), .mov (.t 13), none, false⟩])
 (.seq
 (.seq
 (.ops [⟨(some 4), .mov (.c (.int .i64 (0))), none, false⟩])
 (.block 0
 (.loop [1, 3, 4]
 (.seq
 (.seq
 (.ops [⟨(some 14), .mov (.t 4), none, false⟩,
 ⟨(some 15), .faddr 0 (.t 1), none, false⟩,
 ⟨(some 16), .load false 1 (.t 15), none, false⟩,
 ⟨(some 17), .len (.t 16), none, false⟩,
 ⟨(some 18), .bin .lss (.t 14) (.t 17), none, false⟩])
 (.cond (.t 18)
 .skip
 (.exit 0)))
 (.seq
 (.block 1
 (.seq
 (.ops [⟨(some 21), .faddr 0 (.t 1), none, false⟩,
 ⟨(some 22), .load false 1 (.t 21), none, false⟩,
 ⟨(some 23), .mov (.t 4), none, false⟩,
 ⟨(some 24), .iaddr 4 (.t 22) (.t 23), none, false⟩,
 ⟨(some 25), .load true 4 (.t 24), none, false⟩,
 ⟨(some 5), .alloc [.int .u8 (0), .int .i64 (0), .int .i64 (0), .nils], none, false⟩,
 ⟨none, .store 4 (.t 5) (.t 25), none, false⟩])
 (.seq
 (.ops [⟨(some 26), .mov (.t 3), none, false⟩,
 ⟨(some 27), .faddr 0 (.t 5), none, false⟩,
 ⟨(some 28), .load false 1 (.t 27), none, false⟩,
 ⟨(some 29), .lit 1 [(.t 28)], none, false⟩,
 ⟨(some 30), .app 1 1 (.t 26) (.t 29), none, false⟩,
 ⟨(some 3), .mov (.t 30), none, false⟩])
 (.seq
 (.ops [⟨(some 31), .faddr 0 (.t 5), none, false⟩,
 ⟨(some 32), .load false 1 (.t 31), none, false⟩])
 (.block 2
 (.seq
 (.seq
 (.ops [⟨(some 34), .bin .eql (.t 32) (.c (.int .u8 (4))), none, false⟩,
 ⟨(some 33), .mov (.t 34), none, false⟩])
 (.cond (.t 33)
 .skip
 (.ops [⟨(some 35), .bin .eql (.t 32) (.c (.int .u8 (7))), none, false⟩,
 ⟨(some 33), .mov (.t 35), none, false⟩])))
 (.cond (.t 33)
 (.ops [⟨(some 36), .mov (.t 3), none, false⟩,
 ⟨(some 37), .faddr 1 (.t 5), none, false⟩,
 ⟨(some 38), .load false 1 (.t 37), none, false⟩,
 ⟨(some 39), .call (.c (.fn (.func F_wreckageref09_number) [] [])) [(.t 38)], none, false⟩,
 ⟨(some 40), .app 1 1 (.t 36) (.t 39), none, false⟩,
 ⟨(some 3), .mov (.t 40), none, false⟩])
 (.seq
 (.ops [⟨(some 42), .bin .eql (.t 32) (.c (.int .u8 (6))), none, false⟩,
 ⟨(some 41), .mov (.t 42), none, false⟩])
 (.cond (.t 41)
 (.draw [⟨(some 43), .mov (.t 3), none, false⟩,
 ⟨(some 44), .faddr 1 (.t 5), none, false⟩,
 ⟨(some 45), .load false 1 (.t 44), none, false⟩,
 ⟨(some 46), .call (.c (.fn (.func F_wreckageref09_number) [] [])) [(.t 45)], none, false⟩,
 ⟨(some 47), .app 1 1 (.t 43) (.t 46), none, false⟩,
 ⟨(some 48), .faddr 2 (.t 5), none, false⟩,
 ⟨(some 49), .load false 1 (.t 48), none, true⟩,
 ⟨(some 50), .call (.c (.fn (.func F_wreckageref09_number) [] [])) [(.t 49)], none, false⟩,
 ⟨(some 51), .app 1 1 (.t 47) (.t 50), none, false⟩,
 ⟨(some 3), .mov (.t 51), none, false⟩])
 (.seq
 (.ops [⟨(some 53), .bin .eql (.t 32) (.c (.int .u8 (5))), none, false⟩,
 ⟨(some 52), .mov (.t 53), none, false⟩])
 (.cond (.t 52)
 (.ops [⟨(some 54), .mov (.t 3), none, false⟩,
 ⟨(some 55), .faddr 3 (.t 5), none, false⟩,
 ⟨(some 56), .load false 1 (.t 55), none, false⟩,
 ⟨(some 57), .call (.c (.fn (.func F_wreckageref09_fields) [] [])) [(.t 56)], none, false⟩,
 ⟨(some 58), .app 1 1 (.t 54) (.t 57), none, false⟩,
 ⟨(some 3), .mov (.t 58), none, false⟩])
 .skip)))))))))))
 (.ops [⟨(some 19), .mov (.t 4), none, false⟩,
 ⟨(some 20), .bin .add (.t 19) (.c (.int .i64 (1))), none, false⟩,
 ⟨(some 4), .mov (.t 20), none, false⟩]))))))
 (.seq
 (.ops [⟨(some 59), .mov (.t 3), none, false⟩,
 ⟨(some 60), .faddr 1 (.t 1), none, false⟩,
 ⟨(some 61), .load false 1 (.t 60), none, false⟩,
 ⟨(some 62), .len (.t 61), none, false⟩,
 ⟨(some 63), .call (.c (.fn (.func F_wreckageref09_number) [] [])) [(.t 62)], none, false⟩,
 ⟨(some 64), .app 1 1 (.t 59) (.t 63), none, false⟩,
 ⟨(some 3), .mov (.t 64), none, false⟩])
 (.seq
 (.seq
 (.ops [⟨(some 6), .mov (.c (.int .i64 (0))), none, false⟩])
 (.block 3
 (.loop [1, 3, 6]
 (.seq
 (.seq
 (.ops [⟨(some 65), .mov (.t 6), none, false⟩,
 ⟨(some 66), .faddr 1 (.t 1), none, false⟩,
 ⟨(some 67), .load false 1 (.t 66), none, false⟩,
 ⟨(some 68), .len (.t 67), none, false⟩,
 ⟨(some 69), .bin .lss (.t 65) (.t 68), none, false⟩])
 (.cond (.t 69)
 .skip
 (.exit 3)))
 (.seq
 (.block 4
 (.ops [⟨(some 72), .mov (.t 3), none, false⟩,
 ⟨(some 73), .faddr 1 (.t 1), none, false⟩,
 ⟨(some 74), .load false 1 (.t 73), none, false⟩,
 ⟨(some 75), .mov (.t 6), none, false⟩,
 ⟨(some 76), .iaddr 1 (.t 74) (.t 75), none, false⟩,
 ⟨(some 77), .load false 1 (.t 76), none, false⟩,
 ⟨(some 78), .call (.c (.fn (.func F_wreckageref02_Said) [] [])) [(.t 77)], none, false⟩,
 ⟨(some 79), .app 1 1 (.t 72) (.t 78), none, false⟩,
 ⟨(some 3), .mov (.t 79), none, false⟩]))
 (.ops [⟨(some 70), .mov (.t 6), none, false⟩,
 ⟨(some 71), .bin .add (.t 70) (.c (.int .i64 (1))), none, false⟩,
 ⟨(some 6), .mov (.t 71), none, false⟩]))))))
 (.seq
 (.ops [⟨(some 80), .mov (.t 3), none, false⟩,
 ⟨(some 81), .faddr 2 (.t 1), none, false⟩,
 ⟨(some 82), .load false 1 (.t 81), none, false⟩,
 ⟨(some 83), .len (.t 82), none, false⟩,
 ⟨(some 84), .call (.c (.fn (.func F_wreckageref09_number) [] [])) [(.t 83)], none, false⟩,
 ⟨(some 85), .app 1 1 (.t 80) (.t 84), none, false⟩,
 ⟨(some 3), .mov (.t 85), none, false⟩])
 (.seq
 (.seq
 (.ops [⟨(some 7), .mov (.c (.int .i64 (0))), none, false⟩])
 (.block 5
 (.loop [1, 3, 7]
 (.seq
 (.seq
 (.ops [⟨(some 86), .mov (.t 7), none, false⟩,
 ⟨(some 87), .faddr 2 (.t 1), none, false⟩,
 ⟨(some 88), .load false 1 (.t 87), none, false⟩,
 ⟨(some 89), .len (.t 88), none, false⟩,
 ⟨(some 90), .bin .lss (.t 86) (.t 89), none, false⟩])
 (.cond (.t 90)
 .skip
 (.exit 5)))
 (.seq
 (.block 6
 (.seq
 (.ops [⟨(some 93), .faddr 2 (.t 1), none, false⟩,
 ⟨(some 94), .load false 1 (.t 93), none, false⟩,
 ⟨(some 95), .mov (.t 7), none, false⟩,
 ⟨(some 96), .iaddr 7 (.t 94) (.t 95), none, false⟩,
 ⟨(some 97), .load true 7 (.t 96), none, false⟩,
 ⟨(some 8), .alloc [.str [], .int .i64 (0), .int .i64 (0), .nils, .nils, .nils, .nils], none, false⟩,
 ⟨none, .store 7 (.t 8) (.t 97), none, false⟩])
 (.seq
 (.draw [⟨(some 98), .mov (.t 3), none, false⟩,
 ⟨(some 99), .faddr 0 (.t 8), none, false⟩,
 ⟨(some 100), .load false 1 (.t 99), none, false⟩,
 ⟨(some 101), .call (.c (.fn (.func F_wreckageref02_Said) [] [])) [(.t 100)], none, false⟩,
 ⟨(some 102), .app 1 1 (.t 98) (.t 101), none, false⟩,
 ⟨(some 103), .faddr 1 (.t 8), none, false⟩,
 ⟨(some 104), .load false 1 (.t 103), none, true⟩,
 ⟨(some 105), .call (.c (.fn (.func F_wreckageref09_number) [] [])) [(.t 104)], none, false⟩,
 ⟨(some 106), .app 1 1 (.t 102) (.t 105), none, false⟩,
 ⟨(some 3), .mov (.t 106), none, false⟩])
 (.seq
 (.ops [⟨(some 107), .mov (.t 3), none, false⟩,
 ⟨(some 108), .faddr 2 (.t 8), none, false⟩,
 ⟨(some 109), .load false 1 (.t 108), none, false⟩,
 ⟨(some 110), .call (.c (.fn (.func F_wreckageref02_Double) [] [])) [(.t 109)], none, false⟩,
 ⟨(some 111), .call (.c (.fn (.func F_wreckageref02_Minimal) [] [])) [(.t 110)], none, false⟩,
 ⟨(some 112), .app 1 1 (.t 107) (.t 111), none, false⟩,
 ⟨(some 3), .mov (.t 112), none, false⟩])
 (.seq
 (.draw [⟨(some 113), .mov (.t 3), none, false⟩,
 ⟨(some 114), .faddr 3 (.t 8), none, false⟩,
 ⟨(some 115), .load false 1 (.t 114), none, false⟩,
 ⟨(some 116), .call (.c (.fn (.func F_wreckageref09_fields) [] [])) [(.t 115)], none, false⟩,
 ⟨(some 117), .app 1 1 (.t 113) (.t 116), none, false⟩,
 ⟨(some 118), .faddr 4 (.t 8), none, false⟩,
 ⟨(some 119), .load false 1 (.t 118), none, true⟩,
 ⟨(some 120), .len (.t 119), none, false⟩,
 ⟨(some 121), .call (.c (.fn (.func F_wreckageref09_number) [] [])) [(.t 120)], none, false⟩,
 ⟨(some 122), .app 1 1 (.t 117) (.t 121), none, false⟩,
 ⟨(some 3), .mov (.t 122), none, false⟩])
 (.seq
 (.seq
 (.ops [⟨(some 9), .mov (.c (.int .i64 (0))), none, false⟩])
 (.block 7
 (.loop [1, 3, 7, 8, 9]
 (.seq
 (.seq
 (.ops [⟨(some 123), .mov (.t 9), none, false⟩,
 ⟨(some 124), .faddr 4 (.t 8), none, false⟩,
 ⟨(some 125), .load false 1 (.t 124), none, false⟩,
 ⟨(some 126), .len (.t 125), none, false⟩,
 ⟨(some 127), .bin .lss (.t 123) (.t 126), none, false⟩])
 (.cond (.t 127)
 .skip
 (.exit 7)))
 (.seq
 (.block 8
 (.ops [⟨(some 130), .mov (.t 3), none, false⟩,
 ⟨(some 131), .faddr 4 (.t 8), none, false⟩,
 ⟨(some 132), .load false 1 (.t 131), none, false⟩,
 ⟨(some 133), .mov (.t 9), none, false⟩,
 ⟨(some 134), .iaddr 4 (.t 132) (.t 133), none, false⟩,
 ⟨(some 135), .load true 4 (.t 134), none, false⟩,
 ⟨(some 136), .call (.c (.fn (.func F_wreckageref06_Coded) [] [])) [(.t 135)], none, false⟩,
 ⟨(some 137), .app 1 1 (.t 130) (.t 136), none, false⟩,
 ⟨(some 3), .mov (.t 137), none, false⟩]))
 (.ops [⟨(some 128), .mov (.t 9), none, false⟩,
 ⟨(some 129), .bin .add (.t 128) (.c (.int .i64 (1))), none, false⟩,
 ⟨(some 9), .mov (.t 129), none, false⟩]))))))
 (.draw [⟨(some 138), .mov (.t 3), none, false⟩,
 ⟨(some 139), .faddr 5 (.t 8), none, false⟩,
 ⟨(some 140), .load false 1 (.t 139), none, false⟩,
 ⟨(some 141), .call (.c (.fn (.func F_wreckageref08_Coded) [] [])) [(.t 140)], none, false⟩,
 ⟨(some 142), .app 1 1 (.t 138) (.t 141), none, false⟩,
 ⟨(some 143), .faddr 6 (.t 8), none, false⟩,
 ⟨(some 144), .load false 1 (.t 143), none, true⟩,
 ⟨(some 145), .call (.c (.fn (.func F_wreckageref08_Coded) [] [])) [(.t 144)], none, false⟩,
 ⟨(some 146), .app 1 1 (.t 142) (.t 145), none, false⟩,
 ⟨(some 3), .mov (.t 146), none, false⟩])))))))
 (.ops [⟨(some 91), .mov (.t 7), none, false⟩,
 ⟨(some 92), .bin .add (.t 91) (.c (.int .i64 (1))), none, false⟩,
 ⟨(some 7), .mov (.t 92), none, false⟩]))))))
 (.seq
 (.ops [⟨(some 147), .mov (.t 3), none, false⟩,
 ⟨(some 2), .mov (.t 147), none, false⟩])
 .ret))))))))⟩
def n_wreckageref09_Coded : List (List Nat) := [[1, 3, 4], [1, 3, 6], [1, 3, 7], [1, 3, 7, 8, 9]]
theorem c_wreckageref09_Coded : compFn Try.prog Try.f24 n_wreckageref09_Coded = some a_wreckageref09_Coded := by kernel_rfl
-- 25 wreckage/wreckageref08.Check
def a_wreckageref08_Check : AFunc := ⟨15, [.tmp 4],
 (.seq
 (.ops [⟨(some 4), .mov (.c (.int .i64 (0))), none, false⟩])
 (.seq
 (.seq
 (.ops [⟨(some 5), .mov (.t 1), none, false⟩,
 ⟨(some 6), .bin .lss (.t 5) (.c (.int .i64 (1))), none, false⟩,
 ⟨(some 7), .mov (.t 6), none, false⟩,
 ⟨(some 8), .mov (.t 1), (some (7, false)), false⟩,
 ⟨(some 9), .bin .gtr (.t 8) (.c (.int .i64 (200))), (some (7, false)), false⟩,
 ⟨(some 10), .pick (.t 7) (.c (.bool true)) (.t 9), none, false⟩])
 (.cond (.t 10)
 (.seq
 (.ops [⟨(some 4), .mov (.c (.int .i64 (2))), none, false⟩])
 .ret)
 .skip))
 (.seq
 (.seq
 (.ops [⟨(some 11), .mov (.t 0), none, false⟩,
 ⟨(some 12), .mov (.t 1), none, false⟩,
 ⟨(some 13), .call (.c (.fn (.func F_wreckageref08_Fine) [] [])) [(.t 11), (.t 12)], none, false⟩,
 ⟨(some 14), .un .not (.t 13), none, false⟩])
 (.cond (.t 14)
 (.seq
 (.ops [⟨(some 4), .mov (.c (.int .i64 (8))), none, false⟩])
 .ret)
 .skip))
 (.seq
 (.ops [⟨(some 4), .mov (.c (.int .i64 (0))), none, false⟩])
 .ret))))⟩
def n_wreckageref08_Check : List (List Nat) := []
theorem c_wreckageref08_Check : compFn Try.prog Try.f25 n_wreckageref08_Check = some a_wreckageref08_Check := by kernel_rfl
-- 26 wreckage/wreckageref08.Value
def a_wreckageref08_Value : AFunc := ⟨26, [.tmp 4],
 (.seq
 (.ops [⟨(some 4), .mov (.c (.int .u64 (0))), none, false⟩])
 (.seq
 (.ops [⟨(some 5), .mov (.c (.int .u64 (0))), none, false⟩])
 (.seq
 (.seq
 (.ops [⟨(some 6), .mov (.c (.int .i64 (0))), none, false⟩])
 (.block 0
 (.loop [0, 1, 5, 6]
 (.seq
 (.seq
 (.ops [⟨(some 7), .mov (.t 6), none, false⟩,
 ⟨(some 8), .mov (.t 0), none, false⟩,
 ⟨(some 9), .len (.t 8), none, false⟩,
 ⟨(some 10), .bin .lss (.t 7) (.t 9), none, false⟩])
 (.cond (.t 10)
 .skip
 (.exit 0)))
 (.seq
 (.block 1
 (.seq
 (.ops [⟨(some 13), .mov (.t 0), none, false⟩,
 ⟨(some 14), .mov (.t 6), none, false⟩,
 ⟨(some 15), .iaddr 2 (.t 13) (.t 14), none, false⟩,
 ⟨(some 16), .faddr 0 (.t 15), none, false⟩,
 ⟨(some 17), .load false 1 (.t 16), none, false⟩,
 ⟨(some 18), .mov (.t 1), none, false⟩,
 ⟨(some 19), .bin .leq (.t 17) (.t 18), none, false⟩])
 (.cond (.t 19)
 (.ops [⟨(some 20), .mov (.t 0), none, false⟩,
 ⟨(some 21), .mov (.t 6), none, false⟩,
 ⟨(some 22), .iaddr 2 (.t 20) (.t 21), none, false⟩,
 ⟨(some 23), .faddr 1 (.t 22), none, false⟩,
 ⟨(some 24), .load false 1 (.t 23), none, false⟩,
 ⟨(some 5), .mov (.t 24), none, false⟩])
 .skip)))
 (.ops [⟨(some 11), .mov (.t 6), none, false⟩,
 ⟨(some 12), .bin .add (.t 11) (.c (.int .i64 (1))), none, false⟩,
 ⟨(some 6), .mov (.t 12), none, false⟩]))))))
 (.seq
 (.ops [⟨(some 25), .mov (.t 5), none, false⟩,
 ⟨(some 4), .mov (.t 25), none, false⟩])
 .ret))))⟩
def n_wreckageref08_Value : List (List Nat) := [[0, 1, 5, 6]]
theorem c_wreckageref08_Value : compFn Try.prog Try.f26 n_wreckageref08_Value = some a_wreckageref08_Value := by kernel_rfl
-- 27 wreckage/image.fine
def a_image_fine : AFunc := ⟨85, [.tmp 2],
 (.seq
 (.ops [⟨(some 1), .box 3 (.t 0), none, false⟩,
 ⟨(some 2), .mov (.c (.bool false)), none, false⟩])
 (.seq
 (.seq
 (.ops [⟨(some 12), .faddr 0 (.t 1), none, false⟩,
 ⟨(some 13), .load false 1 (.t 12), none, false⟩,
 ⟨(some 14), .call (.c (.fn (.func F_kinds_Check) [] [])) [(.t 13)], none, false⟩,
 ⟨(some 15), .bin .neq (.t 14) (.c (.int .i64 (0))), none, false⟩,
 ⟨(some 16), .mov (.t 15), none, false⟩,
 ⟨(some 17), .faddr 1 (.t 1), (some (16, false)), false⟩,
 ⟨(some 18), .load false 1 (.t 17), (some (16, false)), false⟩,
 ⟨(some 19), .len (.t 18), (some (16, false)), false⟩,
 ⟨(some 20), .bin .gtr (.t 19) (.c (.int .i64 (32))), (some (16, false)), false⟩,
 ⟨(some 21), .pick (.t 16) (.c (.bool true)) (.t 20), none, false⟩,
 ⟨(some 22), .mov (.t 21), none, false⟩,
 ⟨(some 23), .faddr 2 (.t 1), (some (22, false)), false⟩,
 ⟨(some 24), .load false 1 (.t 23), (some (22, false)), false⟩,
 ⟨(some 25), .len (.t 24), (some (22, false)), false⟩,
 ⟨(some 26), .bin .eql (.t 25) (.c (.int .i64 (0))), (some (22, false)), false⟩,
 ⟨(some 27), .pick (.t 22) (.c (.bool true)) (.t 26), none, false⟩,
 ⟨(some 28), .mov (.t 27), none, false⟩,
 ⟨(some 29), .faddr 2 (.t 1), (some (28, false)), false⟩,
 ⟨(some 30), .load false 1 (.t 29), (some (28, false)), false⟩,
 ⟨(some 31), .len (.t 30), (some (28, false)), false⟩,
 ⟨(some 32), .bin .gtr (.t 31) (.c (.int .i64 (32))), (some (28, false)), false⟩,
 ⟨(some 33), .pick (.t 28) (.c (.bool true)) (.t 32), none, false⟩])
 (.cond (.t 33)
 (.seq
 (.ops [⟨(some 2), .mov (.c (.bool false)), none, false⟩])
 .ret)
 .skip))
 (.seq
 (.seq
 (.ops [⟨(some 34), .faddr 0 (.t 1), none, false⟩,
 ⟨(some 35), .load false 1 (.t 34), none, false⟩,
 ⟨(some 36), .len (.t 35), none, false⟩,
 ⟨(some 37), .mov (.c (.int .i64 (0))), none, false⟩])
 (.block 0
 (.loop [1, 36, 37]
 (.seq
 (.ops [⟨(some 38), .bin .lss (.t 37) (.t 36), none, false⟩])
 (.seq
 (.cond (.t 38)
 .skip
 (.exit 0))
 (.seq
 (.block 1
 (.seq
 (.ops [⟨(some 39), .mov (.t 37), none, false⟩,
 ⟨(some 3), .mov (.t 39), none, false⟩])
 (.seq
 (.ops [⟨(some 41), .faddr 0 (.t 1), none, false⟩,
 ⟨(some 42), .load false 1 (.t 41), none, false⟩,
 ⟨(some 43), .mov (.t 3), none, false⟩,
 ⟨(some 44), .call (.c (.fn (.func F_layout_Size) [] [])) [(.t 42), (.t 43)], none, false⟩,
 ⟨(some 40), .mov (.t 44), none, false⟩,
 ⟨(some 45), .extract (.t 40) 0, none, false⟩,
 ⟨(some 46), .extract (.t 40) 1, none, false⟩,
 ⟨(some 47), .extract (.t 40) 2, none, false⟩,
 ⟨(some 4), .mov (.t 45), none, false⟩,
 ⟨(some 5), .mov (.t 46), none, false⟩,
 ⟨(some 6), .mov (.t 47), none, false⟩])
 (.seq
 (.ops [⟨(some 48), .mov (.t 6), none, false⟩,
 ⟨(some 49), .bin .neq (.t 48) (.c (.int .i64 (0))), none, false⟩])
 (.cond (.t 49)
 (.seq
 (.ops [⟨(some 2), .mov (.c (.bool false)), none, false⟩])
 .ret)
 .skip)))))
 (.ops [⟨(some 50), .bin .add (.t 37) (.c (.int .i64 (1))), none, false⟩,
 ⟨(some 37), .mov (.t 50), none, false⟩])))))))
 (.seq
 (.seq
 (.ops [⟨(some 51), .faddr 1 (.t 1), none, false⟩,
 ⟨(some 52), .load false 1 (.t 51), none, false⟩,
 ⟨(some 53), .len (.t 52), none, false⟩,
 ⟨(some 54), .mov (.c (.int .i64 (0))), none, false⟩])
 (.block 2
 (.loop [1, 52, 53, 54]
 (.seq
 (.ops [⟨(some 55), .bin .lss (.t 54) (.t 53), none, false⟩])
 (.seq
 (.cond (.t 55)
 .skip
 (.exit 2))
 (.seq
 (.block 3
 (.seq
 (.ops [⟨(some 56), .iaddr 1 (.t 52) (.t 54), none, false⟩,
 ⟨(some 57), .load false 1 (.t 56), none, false⟩,
 ⟨(some 8), .mov (.t 57), none, false⟩])
 (.seq
 (.ops [⟨(some 58), .mov (.t 8), none, false⟩,
 ⟨(some 59), .lenS (.t 58), none, false⟩,
 ⟨(some 60), .bin .gtr (.t 59) (.c (.int .i64 (64))), none, false⟩])
 (.cond (.t 60)
 (.seq
 (.ops [⟨(some 2), .mov (.c (.bool false)), none, false⟩])
 .ret)
 .skip))))
 (.ops [⟨(some 61), .bin .add (.t 54) (.c (.int .i64 (1))), none, false⟩,
 ⟨(some 54), .mov (.t 61), none, false⟩])))))))
 (.seq
 (.ops [⟨(some 62), .ext .mkmap, none, false⟩,
 ⟨(some 9), .mov (.t 62), none, false⟩])
 (.seq
 (.seq
 (.ops [⟨(some 63), .faddr 2 (.t 1), none, false⟩,
 ⟨(some 64), .load false 1 (.t 63), none, false⟩,
 ⟨(some 65), .len (.t 64), none, false⟩,
 ⟨(some 66), .mov (.c (.int .i64 (0))), none, false⟩])
 (.block 4
 (.loop [1, 9, 64, 65, 66]
 (.seq
 (.ops [⟨(some 67), .bin .lss (.t 66) (.t 65), none, false⟩])
 (.seq
 (.cond (.t 67)
 .skip
 (.exit 4))
 (.seq
 (.block 5
 (.seq
 (.ops [⟨(some 68), .iaddr 7 (.t 64) (.t 66), none, false⟩,
 ⟨(some 69), .load true 7 (.t 68), none, false⟩,
 ⟨(some 11), .alloc [.str [], .int .i64 (0), .int .i64 (0), .nils, .nils, .nils, .nils], none, false⟩,
 ⟨none, .store 7 (.t 11) (.t 69), none, false⟩])
 (.seq
 (.seq
 (.ops [⟨(some 70), .mov (.t 9), none, false⟩,
 ⟨(some 71), .faddr 0 (.t 11), none, false⟩,
 ⟨(some 72), .load false 1 (.t 71), none, false⟩,
 ⟨(some 73), .ext (.mget true (.bool false) (.t 70) (.t 72)), none, false⟩,
 ⟨(some 74), .mov (.t 73), none, false⟩,
 ⟨(some 75), .faddr 0 (.t 1), (some (74, false)), false⟩,
 ⟨(some 76), .load false 1 (.t 75), (some (74, false)), false⟩,
 ⟨(some 77), .load true 7 (.t 11), (some (74, false)), false⟩,
 ⟨(some 78), .call (.c (.fn (.func F_image_function) [] [])) [(.t 76), (.t 77)], (some (74, false)), false⟩,
 ⟨(some 79), .un .not (.t 78), (some (74, false)), false⟩,
 ⟨(some 80), .pick (.t 74) (.c (.bool true)) (.t 79), none, false⟩])
 (.cond (.t 80)
 (.seq
 (.ops [⟨(some 2), .mov (.c (.bool false)), none, false⟩])
 .ret)
 .skip))
 (.ops [⟨(some 81), .mov (.t 9), none, false⟩,
 ⟨(some 82), .faddr 0 (.t 11), none, false⟩,
 ⟨(some 83), .load false 1 (.t 82), none, false⟩,
 ⟨none, .ext (.mput true (.t 81) (.t 83) (.c (.bool true))), none, false⟩]))))
 (.ops [⟨(some 84), .bin .add (.t 66) (.c (.int .i64 (1))), none, false⟩,
 ⟨(some 66), .mov (.t 84), none, false⟩])))))))
 (.seq
 (.ops [⟨(some 2), .mov (.c (.bool true)), none, false⟩])
 .ret)))))))⟩
def n_image_fine : List (List Nat) := [[1, 36, 37], [1, 52, 53, 54], [1, 9, 64, 65, 66]]
theorem c_image_fine : compFn Try.prog Try.f27 n_image_fine = some a_image_fine := by kernel_rfl
-- 28 (*wreckage/image.writer).types
def a_image_writer_types : AFunc := ⟨53, [],
 (.seq
 (.ops [⟨(some 6), .mov (.t 0), none, false⟩,
 ⟨(some 7), .mov (.t 1), none, false⟩,
 ⟨(some 8), .len (.t 7), none, false⟩,
 ⟨(some 9), .call (.c (.fn (.func F_image_writer_number) [] [])) [(.t 6), (.t 8)], none, false⟩])
 (.seq
 (.ops [⟨(some 10), .mov (.t 1), none, false⟩,
 ⟨(some 11), .len (.t 10), none, false⟩,
 ⟨(some 12), .mov (.c (.int .i64 (0))), none, false⟩])
 (.block 0
 (.loop [0, 10, 11, 12]
 (.seq
 (.ops [⟨(some 13), .bin .lss (.t 12) (.t 11), none, false⟩])
 (.seq
 (.cond (.t 13)
 .skip
 (.exit 0))
 (.seq
 (.block 1
 (.seq
 (.ops [⟨(some 14), .iaddr 4 (.t 10) (.t 12), none, false⟩,
 ⟨(some 15), .load true 4 (.t 14), none, false⟩,
 ⟨(some 5), .alloc [.int .u8 (0), .int .i64 (0), .int .i64 (0), .nils], none, false⟩,
 ⟨none, .store 4 (.t 5) (.t 15), none, false⟩])
 (.seq
 (.draw [⟨(some 16), .mov (.t 0), none, false⟩,
 ⟨(some 17), .mov (.t 0), none, false⟩,
 ⟨(some 18), .ext (.nilChk (.t 17)), none, false⟩,
 ⟨(some 19), .faddr 0 (.t 18), none, false⟩,
 ⟨(some 20), .load false 1 (.t 19), none, false⟩,
 ⟨(some 21), .faddr 0 (.t 5), none, false⟩,
 ⟨(some 22), .load false 1 (.t 21), none, false⟩,
 ⟨(some 23), .lit 1 [(.t 22)], none, false⟩,
 ⟨(some 24), .app 1 1 (.t 20) (.t 23), none, false⟩,
 ⟨(some 25), .ext (.nilChk (.t 16)), none, false⟩,
 ⟨(some 26), .faddr 0 (.t 25), none, false⟩,
 ⟨none, .store 1 (.t 26) (.t 24), none, false⟩])
 (.seq
 (.ops [⟨(some 27), .faddr 0 (.t 5), none, false⟩,
 ⟨(some 28), .load false 1 (.t 27), none, false⟩])
 (.block 2
 (.seq
 (.seq
 (.ops [⟨(some 30), .bin .eql (.t 28) (.c (.int .u8 (4))), none, false⟩,
 ⟨(some 29), .mov (.t 30), none, false⟩])
 (.cond (.t 29)
 .skip
 (.ops [⟨(some 31), .bin .eql (.t 28) (.c (.int .u8 (7))), none, false⟩,
 ⟨(some 29), .mov (.t 31), none, false⟩])))
 (.cond (.t 29)
 (.ops [⟨(some 32), .mov (.t 0), none, false⟩,
 ⟨(some 33), .faddr 1 (.t 5), none, false⟩,
 ⟨(some 34), .load false 1 (.t 33), none, false⟩,
 ⟨(some 35), .call (.c (.fn (.func F_image_writer_number) [] [])) [(.t 32), (.t 34)], none, false⟩])
 (.seq
 (.ops [⟨(some 37), .bin .eql (.t 28) (.c (.int .u8 (6))), none, false⟩,
 ⟨(some 36), .mov (.t 37), none, false⟩])
 (.cond (.t 36)
 (.seq
 (.ops [⟨(some 38), .mov (.t 0), none, false⟩,
 ⟨(some 39), .faddr 1 (.t 5), none, false⟩,
 ⟨(some 40), .load false 1 (.t 39), none, false⟩,
 ⟨(some 41), .call (.c (.fn (.func F_image_writer_number) [] [])) [(.t 38), (.t 40)], none, false⟩])
 (.ops [⟨(some 42), .mov (.t 0), none, false⟩,
 ⟨(some 43), .faddr 2 (.t 5), none, false⟩,
 ⟨(some 44), .load false 1 (.t 43), none, false⟩,
 ⟨(some 45), .call (.c (.fn (.func F_image_writer_number) [] [])) [(.t 42), (.t 44)], none, false⟩]))
 (.seq
 (.ops [⟨(some 47), .bin .eql (.t 28) (.c (.int .u8 (5))), none, false⟩,
 ⟨(some 46), .mov (.t 47), none, false⟩])
 (.cond (.t 46)
 (.ops [⟨(some 48), .mov (.t 0), none, false⟩,
 ⟨(some 49), .faddr 3 (.t 5), none, false⟩,
 ⟨(some 50), .load false 1 (.t 49), none, false⟩,
 ⟨(some 51), .call (.c (.fn (.func F_image_writer_fields) [] [])) [(.t 48), (.t 50)], none, false⟩])
 .skip)))))))))))
 (.ops [⟨(some 52), .bin .add (.t 12) (.c (.int .i64 (1))), none, false⟩,
 ⟨(some 12), .mov (.t 52), none, false⟩]))))))))⟩
def n_image_writer_types : List (List Nat) := [[0, 10, 11, 12]]
theorem c_image_writer_types : compFn Try.prog Try.f28 n_image_writer_types = some a_image_writer_types := by kernel_rfl
-- 29 (*wreckage/image.writer).number
def a_image_writer_number : AFunc := ⟨15, [],
 (.draw [⟨(some 4), .mov (.t 0), none, false⟩,
 ⟨(some 5), .mov (.t 0), none, false⟩,
 ⟨(some 6), .ext (.nilChk (.t 5)), none, false⟩,
 ⟨(some 7), .faddr 0 (.t 6), none, false⟩,
 ⟨(some 8), .load false 1 (.t 7), none, true⟩,
 ⟨(some 9), .mov (.t 1), none, false⟩,
 ⟨(some 10), .conv .u64 (.t 9), none, false⟩,
 ⟨(some 11), .call (.c (.fn (.func F_wire_Vary) [] [])) [(.t 10)], none, false⟩,
 ⟨(some 12), .app 1 1 (.t 8) (.t 11), none, false⟩,
 ⟨(some 13), .ext (.nilChk (.t 4)), none, false⟩,
 ⟨(some 14), .faddr 0 (.t 13), none, false⟩,
 ⟨none, .store 1 (.t 14) (.t 12), none, false⟩])⟩
def n_image_writer_number : List (List Nat) := []
theorem c_image_writer_number : compFn Try.prog Try.f29 n_image_writer_number = some a_image_writer_number := by kernel_rfl
-- 30 (*wreckage/image.writer).text
def a_image_writer_text : AFunc := ⟨17, [],
 (.seq
 (.ops [⟨(some 4), .mov (.t 0), none, false⟩,
 ⟨(some 5), .mov (.t 1), none, false⟩,
 ⟨(some 6), .lenS (.t 5), none, false⟩,
 ⟨(some 7), .call (.c (.fn (.func F_image_writer_number) [] [])) [(.t 4), (.t 6)], none, false⟩])
 (.ops [⟨(some 8), .mov (.t 0), none, false⟩,
 ⟨(some 9), .mov (.t 0), none, false⟩,
 ⟨(some 10), .ext (.nilChk (.t 9)), none, false⟩,
 ⟨(some 11), .faddr 0 (.t 10), none, false⟩,
 ⟨(some 12), .load false 1 (.t 11), none, false⟩,
 ⟨(some 13), .mov (.t 1), none, false⟩,
 ⟨(some 14), .app 1 1 (.t 12) (.t 13), none, false⟩,
 ⟨(some 15), .ext (.nilChk (.t 8)), none, false⟩,
 ⟨(some 16), .faddr 0 (.t 15), none, false⟩,
 ⟨none, .store 1 (.t 16) (.t 14), none, false⟩]))⟩
def n_image_writer_text : List (List Nat) := []
theorem c_image_writer_text : compFn Try.prog Try.f30 n_image_writer_text = some a_image_writer_text := by kernel_rfl
-- 31 (*wreckage/image.writer).function
def a_image_writer_function : AFunc := ⟨97, [.tmp 4],
 (.seq
 (.ops [⟨(some 3), .box 7 (.t 1), none, false⟩,
 ⟨(some 4), .mov (.c (.int .i64 (0))), none, false⟩])
 (.seq
 (.ops [⟨(some 13), .mov (.t 0), none, false⟩,
 ⟨(some 14), .faddr 0 (.t 3), none, false⟩,
 ⟨(some 15), .load false 1 (.t 14), none, false⟩,
 ⟨(some 16), .call (.c (.fn (.func F_image_writer_text) [] [])) [(.t 13), (.t 15)], none, false⟩])
 (.seq
 (.ops [⟨(some 17), .mov (.t 0), none, false⟩,
 ⟨(some 18), .faddr 1 (.t 3), none, false⟩,
 ⟨(some 19), .load false 1 (.t 18), none, false⟩,
 ⟨(some 20), .call (.c (.fn (.func F_image_writer_number) [] [])) [(.t 17), (.t 19)], none, false⟩])
 (.seq
 (.draw [⟨(some 21), .mov (.t 0), none, false⟩,
 ⟨(some 22), .mov (.t 0), none, false⟩,
 ⟨(some 23), .ext (.nilChk (.t 22)), none, false⟩,
 ⟨(some 24), .faddr 0 (.t 23), none, false⟩,
 ⟨(some 25), .load false 1 (.t 24), none, true⟩,
 ⟨(some 26), .faddr 2 (.t 3), none, false⟩,
 ⟨(some 27), .load false 1 (.t 26), none, false⟩,
 ⟨(some 28), .call (.c (.fn (.func F_wire_Signed) [] [])) [(.t 27)], none, false⟩,
 ⟨(some 29), .app 1 1 (.t 25) (.t 28), none, false⟩,
 ⟨(some 30), .ext (.nilChk (.t 21)), none, false⟩,
 ⟨(some 31), .faddr 0 (.t 30), none, false⟩,
 ⟨none, .store 1 (.t 31) (.t 29), none, false⟩])
 (.seq
 (.ops [⟨(some 32), .mov (.t 0), none, false⟩,
 ⟨(some 33), .faddr 3 (.t 3), none, false⟩,
 ⟨(some 34), .load false 1 (.t 33), none, false⟩,
 ⟨(some 35), .call (.c (.fn (.func F_image_writer_fields) [] [])) [(.t 32), (.t 34)], none, false⟩])
 (.seq
 (.ops [⟨(some 36), .mov (.t 0), none, false⟩,
 ⟨(some 37), .faddr 4 (.t 3), none, false⟩,
 ⟨(some 38), .load false 1 (.t 37), none, false⟩,
 ⟨(some 39), .len (.t 38), none, false⟩,
 ⟨(some 40), .call (.c (.fn (.func F_image_writer_number) [] [])) [(.t 36), (.t 39)], none, false⟩])
 (.seq
 (.seq
 (.ops [⟨(some 41), .faddr 4 (.t 3), none, false⟩,
 ⟨(some 42), .load false 1 (.t 41), none, false⟩,
 ⟨(some 43), .len (.t 42), none, false⟩,
 ⟨(some 44), .mov (.c (.int .i64 (0))), none, false⟩])
 (.block 0
 (.loop [0, 3, 42, 43, 44]
 (.seq
 (.ops [⟨(some 45), .bin .lss (.t 44) (.t 43), none, false⟩])
 (.seq
 (.cond (.t 45)
 .skip
 (.exit 0))
 (.seq
 (.block 1
 (.seq
 (.ops [⟨(some 46), .iaddr 4 (.t 42) (.t 44), none, false⟩,
 ⟨(some 47), .load true 4 (.t 46), none, false⟩,
 ⟨(some 6), .alloc [.int .u8 (0), .int .i64 (0), .int .i64 (0), .int .i64 (0)], none, false⟩,
 ⟨none, .store 4 (.t 6) (.t 47), none, false⟩])
 (.seq
 (.ops [⟨(some 49), .load true 4 (.t 6), none, false⟩,
 ⟨(some 50), .call (.c (.fn (.func F_ops_Encode) [] [])) [(.t 49)], none, false⟩,
 ⟨(some 48), .mov (.t 50), none, false⟩,
 ⟨(some 51), .extract (.t 48) 0, none, false⟩,
 ⟨(some 52), .extract (.t 48) 1, none, false⟩,
 ⟨(some 7), .mov (.t 51), none, false⟩,
 ⟨(some 8), .mov (.t 52), none, false⟩])
 (.seq
 (.seq
 (.ops [⟨(some 53), .mov (.t 8), none, false⟩,
 ⟨(some 54), .bin .neq (.t 53) (.c (.int .i64 (0))), none, false⟩])
 (.cond (.t 54)
 (.seq
 (.ops [⟨(some 55), .mov (.t 8), none, false⟩,
 ⟨(some 4), .mov (.t 55), none, false⟩])
 .ret)
 .skip))
 (.ops [⟨(some 56), .mov (.t 0), none, false⟩,
 ⟨(some 57), .mov (.t 0), none, false⟩,
 ⟨(some 58), .ext (.nilChk (.t 57)), none, false⟩,
 ⟨(some 59), .faddr 0 (.t 58), none, false⟩,
 ⟨(some 60), .load false 1 (.t 59), none, false⟩,
 ⟨(some 61), .mov (.t 7), none, false⟩,
 ⟨(some 62), .app 1 1 (.t 60) (.t 61), none, false⟩,
 ⟨(some 63), .ext (.nilChk (.t 56)), none, false⟩,
 ⟨(some 64), .faddr 0 (.t 63), none, false⟩,
 ⟨none, .store 1 (.t 64) (.t 62), none, false⟩])))))
 (.ops [⟨(some 65), .bin .add (.t 44) (.c (.int .i64 (1))), none, false⟩,
 ⟨(some 44), .mov (.t 65), none, false⟩])))))))
 (.seq
 (.seq
 (.ops [⟨(some 66), .faddr 5 (.t 3), none, false⟩,
 ⟨(some 67), .load false 1 (.t 66), none, false⟩,
 ⟨(some 68), .faddr 6 (.t 3), none, false⟩,
 ⟨(some 69), .load false 1 (.t 68), none, false⟩,
 ⟨(some 70), .lit 1 [(.t 67), (.t 69)], none, false⟩,
 ⟨(some 71), .len (.t 70), none, false⟩,
 ⟨(some 72), .mov (.c (.int .i64 (0))), none, false⟩])
 (.block 2
 (.loop [0, 3, 70, 71, 72]
 (.seq
 (.ops [⟨(some 73), .bin .lss (.t 72) (.t 71), none, false⟩])
 (.seq
 (.cond (.t 73)
 .skip
 (.exit 2))
 (.seq
 (.block 3
 (.seq
 (.ops [⟨(some 74), .iaddr 1 (.t 70) (.t 72), none, false⟩,
 ⟨(some 75), .load false 1 (.t 74), none, false⟩,
 ⟨(some 10), .mov (.t 75), none, false⟩])
 (.seq
 (.ops [⟨(some 77), .mov (.t 10), none, false⟩,
 ⟨(some 78), .faddr 4 (.t 3), none, false⟩,
 ⟨(some 79), .load false 1 (.t 78), none, false⟩,
 ⟨(some 80), .len (.t 79), none, false⟩,
 ⟨(some 81), .call (.c (.fn (.func F_tables_Encode) [] [])) [(.t 77), (.t 80)], none, false⟩,
 ⟨(some 76), .mov (.t 81), none, false⟩,
 ⟨(some 82), .extract (.t 76) 0, none, false⟩,
 ⟨(some 83), .extract (.t 76) 1, none, false⟩,
 ⟨(some 11), .mov (.t 82), none, false⟩,
 ⟨(some 12), .mov (.t 83), none, false⟩])
 (.seq
 (.seq
 (.ops [⟨(some 84), .mov (.t 12), none, false⟩,
 ⟨(some 85), .bin .neq (.t 84) (.c (.int .i64 (0))), none, false⟩])
 (.cond (.t 85)
 (.seq
 (.ops [⟨(some 86), .mov (.t 12), none, false⟩,
 ⟨(some 4), .mov (.t 86), none, false⟩])
 .ret)
 .skip))
 (.ops [⟨(some 87), .mov (.t 0), none, false⟩,
 ⟨(some 88), .mov (.t 0), none, false⟩,
 ⟨(some 89), .ext (.nilChk (.t 88)), none, false⟩,
 ⟨(some 90), .faddr 0 (.t 89), none, false⟩,
 ⟨(some 91), .load false 1 (.t 90), none, false⟩,
 ⟨(some 92), .mov (.t 11), none, false⟩,
 ⟨(some 93), .app 1 1 (.t 91) (.t 92), none, false⟩,
 ⟨(some 94), .ext (.nilChk (.t 87)), none, false⟩,
 ⟨(some 95), .faddr 0 (.t 94), none, false⟩,
 ⟨none, .store 1 (.t 95) (.t 93), none, false⟩])))))
 (.ops [⟨(some 96), .bin .add (.t 72) (.c (.int .i64 (1))), none, false⟩,
 ⟨(some 72), .mov (.t 96), none, false⟩])))))))
 (.seq
 (.ops [⟨(some 4), .mov (.c (.int .i64 (0))), none, false⟩])
 .ret)))))))))⟩
def n_image_writer_function : List (List Nat) := [[0, 3, 42, 43, 44], [0, 3, 70, 71, 72]]
theorem c_image_writer_function : compFn Try.prog Try.f31 n_image_writer_function = some a_image_writer_function := by kernel_rfl
-- 32 wreckage/tables.counted
def a_tables_counted : AFunc := ⟨9, [.tmp 2],
 (.seq
 (.ops [⟨(some 2), .mov (.c (.int .i64 (0))), none, false⟩])
 (.seq
 (.seq
 (.ops [⟨(some 3), .mov (.t 0), none, false⟩,
 ⟨(some 4), .bin .lss (.t 3) (.c (.int .i64 (1))), none, false⟩,
 ⟨(some 5), .mov (.t 4), none, false⟩,
 ⟨(some 6), .mov (.t 0), (some (5, false)), false⟩,
 ⟨(some 7), .bin .gtr (.t 6) (.c (.int .i64 (200))), (some (5, false)), false⟩,
 ⟨(some 8), .pick (.t 5) (.c (.bool true)) (.t 7), none, false⟩])
 (.cond (.t 8)
 (.seq
 (.ops [⟨(some 2), .mov (.c (.int .i64 (2))), none, false⟩])
 .ret)
 .skip))
 (.seq
 (.ops [⟨(some 2), .mov (.c (.int .i64 (0))), none, false⟩])
 .ret)))⟩
def n_tables_counted : List (List Nat) := []
theorem c_tables_counted : compFn Try.prog Try.f32 n_tables_counted = some a_tables_counted := by kernel_rfl
-- 33 wreckage/tables.fine
def a_tables_fine : AFunc := ⟨55, [.tmp 4],
 (.seq
 (.ops [⟨(some 4), .mov (.c (.bool false)), none, false⟩])
 (.seq
 (.seq
 (.ops [⟨(some 8), .mov (.t 0), none, false⟩,
 ⟨(some 9), .len (.t 8), none, false⟩,
 ⟨(some 10), .bin .eql (.t 9) (.c (.int .i64 (0))), none, false⟩,
 ⟨(some 11), .mov (.t 10), none, false⟩,
 ⟨(some 12), .mov (.t 0), (some (11, false)), false⟩,
 ⟨(some 13), .iaddr 2 (.t 12) (.c (.int .i64 (0))), (some (11, false)), false⟩,
 ⟨(some 14), .faddr 0 (.t 13), (some (11, false)), false⟩,
 ⟨(some 15), .load false 1 (.t 14), (some (11, false)), false⟩,
 ⟨(some 16), .bin .neq (.t 15) (.c (.int .i64 (0))), (some (11, false)), false⟩,
 ⟨(some 17), .pick (.t 11) (.c (.bool true)) (.t 16), none, false⟩,
 ⟨(some 18), .mov (.t 17), none, false⟩,
 ⟨(some 19), .mov (.t 0), (some (18, false)), false⟩,
 ⟨(some 20), .mov (.t 0), (some (18, false)), false⟩,
 ⟨(some 21), .len (.t 20), (some (18, false)), false⟩,
 ⟨(some 22), .bin .sub (.t 21) (.c (.int .i64 (1))), (some (18, false)), false⟩,
 ⟨(some 23), .iaddr 2 (.t 19) (.t 22), (some (18, false)), false⟩,
 ⟨(some 24), .faddr 0 (.t 23), (some (18, false)), false⟩,
 ⟨(some 25), .load false 1 (.t 24), (some (18, false)), false⟩,
 ⟨(some 26), .mov (.t 1), (some (18, false)), false⟩,
 ⟨(some 27), .bin .geq (.t 25) (.t 26), (some (18, false)), false⟩,
 ⟨(some 28), .pick (.t 18) (.c (.bool true)) (.t 27), none, false⟩])
 (.cond (.t 28)
 (.seq
 (.ops [⟨(some 4), .mov (.c (.bool false)), none, false⟩])
 .ret)
 .skip))
 (.seq
 (.ops [⟨(some 29), .mov (.t 0), none, false⟩,
 ⟨(some 30), .iaddr 2 (.t 29) (.c (.int .i64 (0))), none, false⟩,
 ⟨(some 31), .load true 2 (.t 30), none, false⟩,
 ⟨(some 5), .alloc [.int .i64 (0), .int .u64 (0)], none, false⟩,
 ⟨none, .store 2 (.t 5) (.t 31), none, false⟩])
 (.seq
 (.seq
 (.ops [⟨(some 32), .mov (.t 0), none, false⟩,
 ⟨(some 33), .slice 2 (.t 32) (some (.c (.int .i64 (1)))) none none, none, false⟩,
 ⟨(some 34), .len (.t 33), none, false⟩,
 ⟨(some 35), .mov (.c (.int .i64 (0))), none, false⟩])
 (.block 0
 (.loop [5, 33, 34, 35]
 (.seq
 (.ops [⟨(some 36), .bin .lss (.t 35) (.t 34), none, false⟩])
 (.seq
 (.cond (.t 36)
 .skip
 (.exit 0))
 (.seq
 (.block 1
 (.seq
 (.ops [⟨(some 37), .iaddr 2 (.t 33) (.t 35), none, false⟩,
 ⟨(some 38), .load true 2 (.t 37), none, false⟩,
 ⟨(some 7), .alloc [.int .i64 (0), .int .u64 (0)], none, false⟩,
 ⟨none, .store 2 (.t 7) (.t 38), none, false⟩])
 (.seq
 (.seq
 (.ops [⟨(some 39), .faddr 0 (.t 7), none, false⟩,
 ⟨(some 40), .load false 1 (.t 39), none, false⟩,
 ⟨(some 41), .faddr 0 (.t 5), none, false⟩,
 ⟨(some 42), .load false 1 (.t 41), none, false⟩,
 ⟨(some 43), .bin .leq (.t 40) (.t 42), none, false⟩,
 ⟨(some 44), .mov (.t 43), none, false⟩,
 ⟨(some 45), .load true 2 (.t 7), (some (44, false)), false⟩,
 ⟨(some 46), .faddr 0 (.t 7), (some (44, false)), false⟩,
 ⟨(some 47), .load false 1 (.t 46), (some (44, false)), false⟩,
 ⟨(some 48), .faddr 1 (.t 5), (some (44, false)), false⟩,
 ⟨(some 49), .load false 1 (.t 48), (some (44, false)), false⟩,
 ⟨(some 50), .build [.int .i64 (0), .int .u64 (0)] [(0, 1, (.t 47)), (1, 1, (.t 49))], (some (44, false)), false⟩,
 ⟨(some 51), .ext (.eqA false 2 [(0, 1), (1, 1)] (.t 45) (.t 50)), (some (44, false)), false⟩,
 ⟨(some 52), .pick (.t 44) (.c (.bool true)) (.t 51), none, false⟩])
 (.cond (.t 52)
 (.seq
 (.ops [⟨(some 4), .mov (.c (.bool false)), none, false⟩])
 .ret)
 .skip))
 (.ops [⟨(some 53), .load true 2 (.t 7), none, false⟩,
 ⟨none, .store 2 (.t 5) (.t 53), none, false⟩]))))
 (.ops [⟨(some 54), .bin .add (.t 35) (.c (.int .i64 (1))), none, false⟩,
 ⟨(some 35), .mov (.t 54), none, false⟩])))))))
 (.seq
 (.ops [⟨(some 4), .mov (.c (.bool true)), none, false⟩])
 .ret)))))⟩
def n_tables_fine : List (List Nat) := [[5, 33, 34, 35]]
theorem c_tables_fine : compFn Try.prog Try.f33 n_tables_fine = some a_tables_fine := by kernel_rfl
-- 34 wreckage/wreckageref04.Check
def a_wreckageref04_Check : AFunc := ⟨32, [.tmp 2],
 (.seq
 (.ops [⟨(some 2), .mov (.c (.int .i64 (0))), none, false⟩])
 (.seq
 (.seq
 (.ops [⟨(some 6), .mov (.t 0), none, false⟩,
 ⟨(some 7), .len (.t 6), none, false⟩,
 ⟨(some 8), .bin .gtr (.t 7) (.c (.int .i64 (32))), none, false⟩])
 (.cond (.t 8)
 (.seq
 (.ops [⟨(some 2), .mov (.c (.int .i64 (8))), none, false⟩])
 .ret)
 .skip))
 (.seq
 (.seq
 (.ops [⟨(some 3), .mov (.c (.int .i64 (0))), none, false⟩])
 (.block 0
 (.loop [0, 3]
 (.seq
 (.seq
 (.ops [⟨(some 9), .mov (.t 3), none, false⟩,
 ⟨(some 10), .mov (.t 0), none, false⟩,
 ⟨(some 11), .len (.t 10), none, false⟩,
 ⟨(some 12), .bin .lss (.t 9) (.t 11), none, false⟩])
 (.cond (.t 12)
 .skip
 (.exit 0)))
 (.seq
 (.block 1
 (.seq
 (.ops [⟨(some 15), .mov (.t 0), none, false⟩,
 ⟨(some 16), .mov (.t 3), none, false⟩,
 ⟨(some 17), .call (.c (.fn (.func F_wreckageref04_fine) [] [])) [(.t 15), (.t 16)], none, false⟩,
 ⟨(some 18), .un .not (.t 17), none, false⟩])
 (.cond (.t 18)
 (.seq
 (.ops [⟨(some 2), .mov (.c (.int .i64 (8))), none, false⟩])
 .ret)
 .skip)))
 (.ops [⟨(some 13), .mov (.t 3), none, false⟩,
 ⟨(some 14), .bin .add (.t 13) (.c (.int .i64 (1))), none, false⟩,
 ⟨(some 3), .mov (.t 14), none, false⟩]))))))
 (.seq
 (.ops [⟨(some 19), .mov (.t 0), none, false⟩,
 ⟨(some 20), .call (.c (.fn (.func F_wreckageref04_Widths) [] [])) [(.t 19), (.c (.int .i64 (3)))], none, false⟩,
 ⟨(some 4), .mov (.t 20), none, false⟩])
 (.seq
 (.seq
 (.ops [⟨(some 5), .mov (.c (.int .i64 (0))), none, false⟩])
 (.block 2
 (.loop [0, 4, 5]
 (.seq
 (.seq
 (.ops [⟨(some 21), .mov (.t 5), none, false⟩,
 ⟨(some 22), .mov (.t 0), none, false⟩,
 ⟨(some 23), .len (.t 22), none, false⟩,
 ⟨(some 24), .bin .lss (.t 21) (.t 23), none, false⟩])
 (.cond (.t 24)
 .skip
 (.exit 2)))
 (.seq
 (.block 3
 (.seq
 (.ops [⟨(some 27), .mov (.t 4), none, false⟩,
 ⟨(some 28), .mov (.t 5), none, false⟩,
 ⟨(some 29), .iaddr 1 (.t 27) (.t 28), none, false⟩,
 ⟨(some 30), .load false 1 (.t 29), none, false⟩,
 ⟨(some 31), .bin .gtr (.t 30) (.c (.int .i64 (5000))), none, false⟩])
 (.cond (.t 31)
 (.seq
 (.ops [⟨(some 2), .mov (.c (.int .i64 (8))), none, false⟩])
 .ret)
 .skip)))
 (.ops [⟨(some 25), .mov (.t 5), none, false⟩,
 ⟨(some 26), .bin .add (.t 25) (.c (.int .i64 (1))), none, false⟩,
 ⟨(some 5), .mov (.t 26), none, false⟩]))))))
 (.seq
 (.ops [⟨(some 2), .mov (.c (.int .i64 (0))), none, false⟩])
 .ret))))))⟩
def n_wreckageref04_Check : List (List Nat) := [[0, 3], [0, 4, 5]]
theorem c_wreckageref04_Check : compFn Try.prog Try.f34 n_wreckageref04_Check = some a_wreckageref04_Check := by kernel_rfl
-- 35 wreckage/wreckageref05.Sizes
def a_wreckageref05_Sizes : AFunc := ⟨75, [.tmp 2, .tmp 3],
 (.seq
 (.ops [⟨(some 2), .mov (.c (.nils)), none, false⟩,
 ⟨(some 3), .mov (.c (.nils)), none, false⟩])
 (.seq
 (.ops [⟨(some 4), .mov (.c (.nils)), none, false⟩,
 ⟨(some 5), .mov (.c (.nils)), none, false⟩])
 (.seq
 (.seq
 (.ops [⟨(some 6), .mov (.c (.int .i64 (0))), none, false⟩])
 (.block 0
 (.loop [0, 4, 5, 6]
 (.seq
 (.seq
 (.ops [⟨(some 9), .mov (.t 6), none, false⟩,
 ⟨(some 10), .mov (.t 0), none, false⟩,
 ⟨(some 11), .len (.t 10), none, false⟩,
 ⟨(some 12), .bin .lss (.t 9) (.t 11), none, false⟩])
 (.cond (.t 12)
 .skip
 (.exit 0)))
 (.seq
 (.block 1
 (.seq
 (.ops [⟨(some 7), .mov (.c (.int .i64 (8))), none, false⟩,
 ⟨(some 8), .mov (.c (.int .i64 (8))), none, false⟩])
 (.seq
 (.seq
 (.ops [⟨(some 15), .mov (.t 0), none, false⟩,
 ⟨(some 16), .mov (.t 6), none, false⟩,
 ⟨(some 17), .iaddr 4 (.t 15) (.t 16), none, false⟩,
 ⟨(some 18), .faddr 0 (.t 17), none, false⟩,
 ⟨(some 19), .load false 1 (.t 18), none, false⟩])
 (.block 2
 (.seq
 (.ops [⟨(some 21), .bin .eql (.t 19) (.c (.int .u8 (1))), none, false⟩,
 ⟨(some 20), .mov (.t 21), none, false⟩])
 (.cond (.t 20)
 (.ops [⟨(some 7), .mov (.c (.int .i64 (1))), none, false⟩,
 ⟨(some 8), .mov (.c (.int .i64 (1))), none, false⟩])
 (.seq
 (.ops [⟨(some 23), .bin .eql (.t 19) (.c (.int .u8 (3))), none, false⟩,
 ⟨(some 22), .mov (.t 23), none, false⟩])
 (.cond (.t 22)
 (.ops [⟨(some 7), .mov (.c (.int .i64 (16))), none, false⟩])
 (.seq
 (.ops [⟨(some 25), .bin .eql (.t 19) (.c (.int .u8 (7))), none, false⟩,
 ⟨(some 24), .mov (.t 25), none, false⟩])
 (.cond (.t 24)
 (.ops [⟨(some 7), .mov (.c (.int .i64 (24))), none, false⟩])
 (.seq
 (.ops [⟨(some 27), .bin .eql (.t 19) (.c (.int .u8 (6))), none, false⟩,
 ⟨(some 26), .mov (.t 27), none, false⟩])
 (.cond (.t 26)
 (.draw [⟨(some 28), .mov (.t 0), none, false⟩,
 ⟨(some 29), .mov (.t 6), none, false⟩,
 ⟨(some 30), .iaddr 4 (.t 28) (.t 29), none, false⟩,
 ⟨(some 31), .faddr 2 (.t 30), none, false⟩,
 ⟨(some 32), .load false 1 (.t 31), none, false⟩,
 ⟨(some 33), .mov (.t 4), none, false⟩,
 ⟨(some 34), .mov (.t 0), none, false⟩,
 ⟨(some 35), .mov (.t 6), none, false⟩,
 ⟨(some 36), .iaddr 4 (.t 34) (.t 35), none, false⟩,
 ⟨(some 37), .faddr 1 (.t 36), none, false⟩,
 ⟨(some 38), .load false 1 (.t 37), none, false⟩,
 ⟨(some 39), .iaddr 1 (.t 33) (.t 38), none, false⟩,
 ⟨(some 40), .load false 1 (.t 39), none, false⟩,
 ⟨(some 41), .bin .mul (.t 32) (.t 40), none, false⟩,
 ⟨(some 42), .mn (.c (.int .i64 (1000000))) (.t 41), none, false⟩,
 ⟨(some 43), .mov (.t 5), none, false⟩,
 ⟨(some 44), .mov (.t 0), none, false⟩,
 ⟨(some 45), .mov (.t 6), none, false⟩,
 ⟨(some 46), .iaddr 4 (.t 44) (.t 45), none, false⟩,
 ⟨(some 47), .faddr 1 (.t 46), none, false⟩,
 ⟨(some 48), .load false 1 (.t 47), none, false⟩,
 ⟨(some 49), .iaddr 1 (.t 43) (.t 48), none, false⟩,
 ⟨(some 50), .load false 1 (.t 49), none, false⟩,
 ⟨(some 7), .mov (.t 42), none, false⟩,
 ⟨(some 8), .mov (.t 50), none, false⟩])
 (.seq
 (.ops [⟨(some 52), .bin .eql (.t 19) (.c (.int .u8 (5))), none, false⟩,
 ⟨(some 51), .mov (.t 52), none, false⟩])
 (.cond (.t 51)
 (.ops [⟨(some 54), .mov (.t 4), none, false⟩,
 ⟨(some 55), .mov (.t 5), none, false⟩,
 ⟨(some 56), .mov (.t 0), none, false⟩,
 ⟨(some 57), .mov (.t 6), none, false⟩,
 ⟨(some 58), .iaddr 4 (.t 56) (.t 57), none, false⟩,
 ⟨(some 59), .faddr 3 (.t 58), none, false⟩,
 ⟨(some 60), .load false 1 (.t 59), none, false⟩,
 ⟨(some 61), .call (.c (.fn (.func F_wreckageref05_together) [] [])) [(.t 54), (.t 55), (.t 60)], none, false⟩,
 ⟨(some 53), .mov (.t 61), none, false⟩,
 ⟨(some 62), .extract (.t 53) 0, none, false⟩,
 ⟨(some 63), .extract (.t 53) 1, none, false⟩,
 ⟨(some 64), .extract (.t 53) 2, none, false⟩,
 ⟨(some 7), .mov (.t 63), none, false⟩,
 ⟨(some 8), .mov (.t 64), none, false⟩])
 .skip))))))))))))
 (.ops [⟨(some 65), .mov (.t 4), none, false⟩,
 ⟨(some 66), .mov (.t 7), none, false⟩,
 ⟨(some 67), .lit 1 [(.t 66)], none, false⟩,
 ⟨(some 68), .app 1 8 (.t 65) (.t 67), none, false⟩,
 ⟨(some 69), .mov (.t 5), none, false⟩,
 ⟨(some 70), .mov (.t 8), none, false⟩,
 ⟨(some 71), .lit 1 [(.t 70)], none, false⟩,
 ⟨(some 72), .app 1 8 (.t 69) (.t 71), none, false⟩,
 ⟨(some 4), .mov (.t 68), none, false⟩,
 ⟨(some 5), .mov (.t 72), none, false⟩]))))
 (.ops [⟨(some 13), .mov (.t 6), none, false⟩,
 ⟨(some 14), .bin .add (.t 13) (.c (.int .i64 (1))), none, false⟩,
 ⟨(some 6), .mov (.t 14), none, false⟩]))))))
 (.seq
 (.ops [⟨(some 73), .mov (.t 4), none, false⟩,
 ⟨(some 74), .mov (.t 5), none, false⟩,
 ⟨(some 2), .mov (.t 73), none, false⟩,
 ⟨(some 3), .mov (.t 74), none, false⟩])
 .ret))))⟩
def n_wreckageref05_Sizes : List (List Nat) := [[0, 4, 5, 6]]
theorem c_wreckageref05_Sizes : compFn Try.prog Try.f35 n_wreckageref05_Sizes = some a_wreckageref05_Sizes := by kernel_rfl
-- 36 wreckage/wreckageref09.function
def a_wreckageref09_function : AFunc := ⟨107, [.tmp 4],
 (.seq
 (.ops [⟨(some 3), .box 7 (.t 1), none, false⟩,
 ⟨(some 4), .mov (.c (.bool false)), none, false⟩])
 (.seq
 (.seq
 (.ops [⟨(some 7), .faddr 0 (.t 3), none, false⟩,
 ⟨(some 8), .load false 1 (.t 7), none, false⟩,
 ⟨(some 9), .call (.c (.fn (.func F_wreckageref04_Named) [] [])) [(.t 8)], none, false⟩,
 ⟨(some 10), .un .not (.t 9), none, false⟩,
 ⟨(some 11), .mov (.t 10), none, false⟩,
 ⟨(some 12), .faddr 3 (.t 3), (some (11, false)), false⟩,
 ⟨(some 13), .load false 1 (.t 12), (some (11, false)), false⟩,
 ⟨(some 14), .call (.c (.fn (.func F_wreckageref04_Fields) [] [])) [(.t 13), (.c (.int .i64 (16)))], (some (11, false)), false⟩,
 ⟨(some 15), .un .not (.t 14), (some (11, false)), false⟩,
 ⟨(some 16), .pick (.t 11) (.c (.bool true)) (.t 15), none, false⟩,
 ⟨(some 17), .mov (.t 16), none, false⟩,
 ⟨(some 18), .faddr 1 (.t 3), (some (17, false)), false⟩,
 ⟨(some 19), .load false 1 (.t 18), (some (17, false)), false⟩,
 ⟨(some 20), .bin .lss (.t 19) (.c (.int .i64 (0))), (some (17, false)), false⟩,
 ⟨(some 21), .pick (.t 17) (.c (.bool true)) (.t 20), none, false⟩,
 ⟨(some 22), .mov (.t 21), none, false⟩,
 ⟨(some 23), .faddr 1 (.t 3), (some (22, false)), false⟩,
 ⟨(some 24), .load false 1 (.t 23), (some (22, false)), false⟩,
 ⟨(some 25), .faddr 3 (.t 3), (some (22, false)), false⟩,
 ⟨(some 26), .load false 1 (.t 25), (some (22, false)), false⟩,
 ⟨(some 27), .len (.t 26), (some (22, false)), false⟩,
 ⟨(some 28), .bin .gtr (.t 24) (.t 27), (some (22, false)), false⟩,
 ⟨(some 29), .pick (.t 22) (.c (.bool true)) (.t 28), none, false⟩,
 ⟨(some 30), .mov (.t 29), none, false⟩,
 ⟨(some 31), .faddr 2 (.t 3), (some (30, false)), false⟩,
 ⟨(some 32), .load false 1 (.t 31), (some (30, false)), false⟩,
 ⟨(some 33), .bin .lss (.t 32) (.c (.int .i64 (-1))), (some (30, false)), false⟩,
 ⟨(some 34), .pick (.t 30) (.c (.bool true)) (.t 33), none, false⟩,
 ⟨(some 35), .mov (.t 34), none, false⟩,
 ⟨(some 36), .faddr 2 (.t 3), (some (35, false)), false⟩,
 ⟨(some 37), .load false 1 (.t 36), (some (35, false)), false⟩,
 ⟨(some 38), .mov (.t 0), (some (35, false)), false⟩,
 ⟨(some 39), .len (.t 38), (some (35, false)), false⟩,
 ⟨(some 40), .bin .geq (.t 37) (.t 39), (some (35, false)), false⟩,
 ⟨(some 41), .pick (.t 35) (.c (.bool true)) (.t 40), none, false⟩,
 ⟨(some 42), .mov (.t 41), none, false⟩,
 ⟨(some 43), .faddr 4 (.t 3), (some (42, false)), false⟩,
 ⟨(some 44), .load false 1 (.t 43), (some (42, false)), false⟩,
 ⟨(some 45), .len (.t 44), (some (42, false)), false⟩,
 ⟨(some 46), .bin .lss (.t 45) (.c (.int .i64 (1))), (some (42, false)), false⟩,
 ⟨(some 47), .pick (.t 42) (.c (.bool true)) (.t 46), none, false⟩,
 ⟨(some 48), .mov (.t 47), none, false⟩,
 ⟨(some 49), .faddr 4 (.t 3), (some (48, false)), false⟩,
 ⟨(some 50), .load false 1 (.t 49), (some (48, false)), false⟩,
 ⟨(some 51), .len (.t 50), (some (48, false)), false⟩,
 ⟨(some 52), .bin .gtr (.t 51) (.c (.int .i64 (200))), (some (48, false)), false⟩,
 ⟨(some 53), .pick (.t 48) (.c (.bool true)) (.t 52), none, false⟩])
 (.cond (.t 53)
 (.seq
 (.ops [⟨(some 4), .mov (.c (.bool false)), none, false⟩])
 .ret)
 .skip))
 (.seq
 (.seq
 (.ops [⟨(some 5), .mov (.c (.int .i64 (0))), none, false⟩])
 (.block 0
 (.loop [0, 3, 5]
 (.seq
 (.seq
 (.ops [⟨(some 54), .mov (.t 5), none, false⟩,
 ⟨(some 55), .faddr 3 (.t 3), none, false⟩,
 ⟨(some 56), .load false 1 (.t 55), none, false⟩,
 ⟨(some 57), .len (.t 56), none, false⟩,
 ⟨(some 58), .bin .lss (.t 54) (.t 57), none, false⟩])
 (.cond (.t 58)
 .skip
 (.exit 0)))
 (.seq
 (.block 1
 (.seq
 (.ops [⟨(some 61), .faddr 3 (.t 3), none, false⟩,
 ⟨(some 62), .load false 1 (.t 61), none, false⟩,
 ⟨(some 63), .mov (.t 5), none, false⟩,
 ⟨(some 64), .iaddr 2 (.t 62) (.t 63), none, false⟩,
 ⟨(some 65), .faddr 1 (.t 64), none, false⟩,
 ⟨(some 66), .load false 1 (.t 65), none, false⟩,
 ⟨(some 67), .bin .lss (.t 66) (.c (.int .i64 (0))), none, false⟩,
 ⟨(some 68), .mov (.t 67), none, false⟩,
 ⟨(some 69), .faddr 3 (.t 3), (some (68, false)), false⟩,
 ⟨(some 70), .load false 1 (.t 69), (some (68, false)), false⟩,
 ⟨(some 71), .mov (.t 5), (some (68, false)), false⟩,
 ⟨(some 72), .iaddr 2 (.t 70) (.t 71), (some (68, false)), false⟩,
 ⟨(some 73), .faddr 1 (.t 72), (some (68, false)), false⟩,
 ⟨(some 74), .load false 1 (.t 73), (some (68, false)), false⟩,
 ⟨(some 75), .mov (.t 0), (some (68, false)), false⟩,
 ⟨(some 76), .len (.t 75), (some (68, false)), false⟩,
 ⟨(some 77), .bin .geq (.t 74) (.t 76), (some (68, false)), false⟩,
 ⟨(some 78), .pick (.t 68) (.c (.bool true)) (.t 77), none, false⟩])
 (.cond (.t 78)
 (.seq
 (.ops [⟨(some 4), .mov (.c (.bool false)), none, false⟩])
 .ret)
 .skip)))
 (.ops [⟨(some 59), .mov (.t 5), none, false⟩,
 ⟨(some 60), .bin .add (.t 59) (.c (.int .i64 (1))), none, false⟩,
 ⟨(some 5), .mov (.t 60), none, false⟩]))))))
 (.seq
 (.seq
 (.ops [⟨(some 6), .mov (.c (.int .i64 (0))), none, false⟩])
 (.block 2
 (.loop [3, 6]
 (.seq
 (.seq
 (.ops [⟨(some 79), .mov (.t 6), none, false⟩,
 ⟨(some 80), .faddr 4 (.t 3), none, false⟩,
 ⟨(some 81), .load false 1 (.t 80), none, false⟩,
 ⟨(some 82), .len (.t 81), none, false⟩,
 ⟨(some 83), .bin .lss (.t 79) (.t 82), none, false⟩])
 (.cond (.t 83)
 .skip
 (.exit 2)))
 (.seq
 (.block 3
 (.seq
 (.ops [⟨(some 86), .faddr 4 (.t 3), none, false⟩,
 ⟨(some 87), .load false 1 (.t 86), none, false⟩,
 ⟨(some 88), .mov (.t 6), none, false⟩,
 ⟨(some 89), .iaddr 4 (.t 87) (.t 88), none, false⟩,
 ⟨(some 90), .load true 4 (.t 89), none, false⟩,
 ⟨(some 91), .call (.c (.fn (.func F_wreckageref06_Check) [] [])) [(.t 90)], none, false⟩,
 ⟨(some 92), .bin .neq (.t 91) (.c (.int .i64 (0))), none, false⟩])
 (.cond (.t 92)
 (.seq
 (.ops [⟨(some 4), .mov (.c (.bool false)), none, false⟩])
 .ret)
 .skip)))
 (.ops [⟨(some 84), .mov (.t 6), none, false⟩,
 ⟨(some 85), .bin .add (.t 84) (.c (.int .i64 (1))), none, false⟩,
 ⟨(some 6), .mov (.t 85), none, false⟩]))))))
 (.seq
 (.ops [⟨(some 93), .faddr 5 (.t 3), none, false⟩,
 ⟨(some 94), .load false 1 (.t 93), none, false⟩,
 ⟨(some 95), .faddr 4 (.t 3), none, false⟩,
 ⟨(some 96), .load false 1 (.t 95), none, false⟩,
 ⟨(some 97), .len (.t 96), none, false⟩,
 ⟨(some 98), .call (.c (.fn (.func F_wreckageref08_Fine) [] [])) [(.t 94), (.t 97)], none, false⟩,
 ⟨(some 99), .mov (.t 98), none, false⟩,
 ⟨(some 100), .faddr 6 (.t 3), (some (99, true)), false⟩,
 ⟨(some 101), .load false 1 (.t 100), (some (99, true)), false⟩,
 ⟨(some 102), .faddr 4 (.t 3), (some (99, true)), false⟩,
 ⟨(some 103), .load false 1 (.t 102), (some (99, true)), false⟩,
 ⟨(some 104), .len (.t 103), (some (99, true)), false⟩,
 ⟨(some 105), .call (.c (.fn (.func F_wreckageref08_Fine) [] [])) [(.t 101), (.t 104)], (some (99, true)), false⟩,
 ⟨(some 106), .pick (.t 99) (.t 105) (.c (.bool false)), none, false⟩,
 ⟨(some 4), .mov (.t 106), none, false⟩])
 .ret)))))⟩
def n_wreckageref09_function : List (List Nat) := [[0, 3, 5], [3, 6]]
theorem c_wreckageref09_function : compFn Try.prog Try.f36 n_wreckageref09_function = some a_wreckageref09_function := by kernel_rfl
-- 37 wreckage/wreckageref09.number
def a_wreckageref09_number : AFunc := ⟨6, [.tmp 2],
 (.seq
 (.ops [⟨(some 2), .mov (.c (.nils)), none, false⟩])
 (.seq
 (.ops [⟨(some 3), .mov (.t 0), none, false⟩,
 ⟨(some 4), .conv .u64 (.t 3), none, false⟩,
 ⟨(some 5), .call (.c (.fn (.func F_wreckageref02_Minimal) [] [])) [(.t 4)], none, false⟩,
 ⟨(some 2), .mov (.t 5), none, false⟩])
 .ret))⟩
def n_wreckageref09_number : List (List Nat) := []
theorem c_wreckageref09_number : compFn Try.prog Try.f37 n_wreckageref09_number = some a_wreckageref09_number := by kernel_rfl
-- 38 wreckage/wreckageref09.fields
def a_wreckageref09_fields : AFunc := ⟨30, [.tmp 2],
 (.seq
 (.ops [⟨(some 2), .mov (.c (.nils)), none, false⟩])
 (.seq
 (.ops [⟨(some 5), .mov (.t 0), none, false⟩,
 ⟨(some 6), .len (.t 5), none, false⟩,
 ⟨(some 7), .call (.c (.fn (.func F_wreckageref09_number) [] [])) [(.t 6)], none, false⟩,
 ⟨(some 3), .mov (.t 7), none, false⟩])
 (.seq
 (.seq
 (.ops [⟨(some 4), .mov (.c (.int .i64 (0))), none, false⟩])
 (.block 0
 (.loop [0, 3, 4]
 (.seq
 (.seq
 (.ops [⟨(some 8), .mov (.t 4), none, false⟩,
 ⟨(some 9), .mov (.t 0), none, false⟩,
 ⟨(some 10), .len (.t 9), none, false⟩,
 ⟨(some 11), .bin .lss (.t 8) (.t 10), none, false⟩])
 (.cond (.t 11)
 .skip
 (.exit 0)))
 (.seq
 (.block 1
 (.draw [⟨(some 14), .mov (.t 3), none, false⟩,
 ⟨(some 15), .mov (.t 0), none, false⟩,
 ⟨(some 16), .mov (.t 4), none, false⟩,
 ⟨(some 17), .iaddr 2 (.t 15) (.t 16), none, false⟩,
 ⟨(some 18), .faddr 0 (.t 17), none, false⟩,
 ⟨(some 19), .load false 1 (.t 18), none, false⟩,
 ⟨(some 20), .call (.c (.fn (.func F_wreckageref02_Said) [] [])) [(.t 19)], none, false⟩,
 ⟨(some 21), .app 1 1 (.t 14) (.t 20), none, false⟩,
 ⟨(some 22), .mov (.t 0), none, false⟩,
 ⟨(some 23), .mov (.t 4), none, false⟩,
 ⟨(some 24), .iaddr 2 (.t 22) (.t 23), none, false⟩,
 ⟨(some 25), .faddr 1 (.t 24), none, false⟩,
 ⟨(some 26), .load false 1 (.t 25), none, true⟩,
 ⟨(some 27), .call (.c (.fn (.func F_wreckageref09_number) [] [])) [(.t 26)], none, false⟩,
 ⟨(some 28), .app 1 1 (.t 21) (.t 27), none, false⟩,
 ⟨(some 3), .mov (.t 28), none, false⟩]))
 (.ops [⟨(some 12), .mov (.t 4), none, false⟩,
 ⟨(some 13), .bin .add (.t 12) (.c (.int .i64 (1))), none, false⟩,
 ⟨(some 4), .mov (.t 13), none, false⟩]))))))
 (.seq
 (.ops [⟨(some 29), .mov (.t 3), none, false⟩,
 ⟨(some 2), .mov (.t 29), none, false⟩])
 .ret))))⟩
def n_wreckageref09_fields : List (List Nat) := [[0, 3, 4]]
theorem c_wreckageref09_fields : compFn Try.prog Try.f38 n_wreckageref09_fields = some a_wreckageref09_fields := by kernel_rfl
-- 39 wreckage/wreckageref02.Said
def a_wreckageref02_Said : AFunc := ⟨9, [.tmp 2],
 (.seq
 (.ops [⟨(some 2), .mov (.c (.nils)), none, false⟩])
 (.seq
 (.ops [⟨(some 3), .mov (.t 0), none, false⟩,
 ⟨(some 4), .lenS (.t 3), none, false⟩,
 ⟨(some 5), .conv .u64 (.t 4), none, false⟩,
 ⟨(some 6), .call (.c (.fn (.func F_wreckageref02_Minimal) [] [])) [(.t 5)], none, false⟩,
 ⟨(some 7), .mov (.t 0), none, false⟩,
 ⟨(some 8), .app 1 1 (.t 6) (.t 7), none, false⟩,
 ⟨(some 2), .mov (.t 8), none, false⟩])
 .ret))⟩
def n_wreckageref02_Said : List (List Nat) := []
theorem c_wreckageref02_Said : compFn Try.prog Try.f39 n_wreckageref02_Said = some a_wreckageref02_Said := by kernel_rfl
-- 40 wreckage/wreckageref02.Minimal
def a_wreckageref02_Minimal : AFunc := ⟨20, [.tmp 2],
 (.seq
 (.ops [⟨(some 2), .mov (.c (.nils)), none, false⟩])
 (.seq
 (.ops [⟨(some 3), .mov (.c (.nils)), none, false⟩])
 (.seq
 (.block 0
 (.loop [0, 3]
 (.seq
 (.seq
 (.ops [⟨(some 4), .mov (.t 0), none, false⟩,
 ⟨(some 5), .bin .geq (.t 4) (.c (.int .u64 (128))), none, false⟩])
 (.cond (.t 5)
 .skip
 (.exit 0)))
 (.block 1
 (.seq
 (.ops [⟨(some 6), .mov (.t 3), none, false⟩,
 ⟨(some 7), .mov (.t 0), none, false⟩,
 ⟨(some 8), .bin .rem (.t 7) (.c (.int .u64 (128))), none, false⟩,
 ⟨(some 9), .conv .u8 (.t 8), none, false⟩,
 ⟨(some 10), .bin .add (.t 9) (.c (.int .u8 (128))), none, false⟩,
 ⟨(some 11), .lit 1 [(.t 10)], none, false⟩,
 ⟨(some 12), .app 1 1 (.t 6) (.t 11), none, false⟩,
 ⟨(some 3), .mov (.t 12), none, false⟩])
 (.ops [⟨(some 13), .mov (.t 0), none, false⟩,
 ⟨(some 14), .bin .quo (.t 13) (.c (.int .u64 (128))), none, false⟩,
 ⟨(some 0), .mov (.t 14), none, false⟩]))))))
 (.seq
 (.ops [⟨(some 15), .mov (.t 3), none, false⟩,
 ⟨(some 16), .mov (.t 0), none, false⟩,
 ⟨(some 17), .conv .u8 (.t 16), none, false⟩,
 ⟨(some 18), .lit 1 [(.t 17)], none, false⟩,
 ⟨(some 19), .app 1 1 (.t 15) (.t 18), none, false⟩,
 ⟨(some 2), .mov (.t 19), none, false⟩])
 .ret))))⟩
def n_wreckageref02_Minimal : List (List Nat) := [[0, 3]]
theorem c_wreckageref02_Minimal : compFn Try.prog Try.f40 n_wreckageref02_Minimal = some a_wreckageref02_Minimal := by kernel_rfl
-- 41 wreckage/wreckageref02.Double
def a_wreckageref02_Double : AFunc := ⟨14, [.tmp 2],
 (.seq
 (.ops [⟨(some 2), .mov (.c (.int .u64 (0))), none, false⟩])
 (.seq
 (.seq
 (.ops [⟨(some 3), .mov (.t 0), none, false⟩,
 ⟨(some 4), .bin .geq (.t 3) (.c (.int .i64 (0))), none, false⟩])
 (.cond (.t 4)
 (.seq
 (.ops [⟨(some 5), .mov (.t 0), none, false⟩,
 ⟨(some 6), .conv .u64 (.t 5), none, false⟩,
 ⟨(some 7), .bin .mul (.t 6) (.c (.int .u64 (2))), none, false⟩,
 ⟨(some 2), .mov (.t 7), none, false⟩])
 .ret)
 .skip))
 (.seq
 (.ops [⟨(some 8), .mov (.t 0), none, false⟩,
 ⟨(some 9), .bin .add (.t 8) (.c (.int .i64 (1))), none, false⟩,
 ⟨(some 10), .un .neg (.t 9), none, false⟩,
 ⟨(some 11), .conv .u64 (.t 10), none, false⟩,
 ⟨(some 12), .bin .mul (.t 11) (.c (.int .u64 (2))), none, false⟩,
 ⟨(some 13), .bin .add (.t 12) (.c (.int .u64 (1))), none, false⟩,
 ⟨(some 2), .mov (.t 13), none, false⟩])
 .ret)))⟩
def n_wreckageref02_Double : List (List Nat) := []
theorem c_wreckageref02_Double : compFn Try.prog Try.f41 n_wreckageref02_Double = some a_wreckageref02_Double := by kernel_rfl
-- 42 wreckage/wreckageref06.Coded
def a_wreckageref06_Coded : AFunc := ⟨42, [.tmp 2],
 (.seq
 (.ops [⟨(some 1), .box 4 (.t 0), none, false⟩,
 ⟨(some 2), .mov (.c (.nils)), none, false⟩])
 (.seq
 (.ops [⟨(some 7), .faddr 0 (.t 1), none, false⟩,
 ⟨(some 8), .load false 1 (.t 7), none, false⟩,
 ⟨(some 9), .lit 1 [(.t 8)], none, false⟩,
 ⟨(some 3), .mov (.t 9), none, false⟩])
 (.seq
 (.draw [⟨(some 5), .alloc [.int .i64 (0), .int .i64 (0), .int .i64 (0)], none, false⟩,
 ⟨(some 10), .faddr 0 (.t 1), none, false⟩,
 ⟨(some 11), .load false 1 (.t 10), none, false⟩,
 ⟨(some 12), .call (.c (.fn (.func F_wreckageref06_Shape) [] [])) [(.t 11)], none, false⟩,
 ⟨(some 13), .load true 4 (.t 1), none, true⟩,
 ⟨(some 14), .call (.c (.fn (.func F_wreckageref06_Operands) [] [])) [(.t 13)], none, false⟩,
 ⟨(some 4), .mov (.t 12), none, false⟩,
 ⟨none, .store 3 (.t 5) (.t 14), none, false⟩])
 (.seq
 (.seq
 (.ops [⟨(some 6), .mov (.c (.int .i64 (0))), none, false⟩])
 (.block 0
 (.loop [3, 4, 5, 6]
 (.seq
 (.seq
 (.ops [⟨(some 15), .mov (.t 6), none, false⟩,
 ⟨(some 16), .bin .lss (.t 15) (.c (.int .i64 (3))), none, false⟩])
 (.cond (.t 16)
 .skip
 (.exit 0)))
 (.seq
 (.block 1
 (.seq
 (.seq
 (.ops [⟨(some 19), .mov (.t 4), none, false⟩,
 ⟨(some 20), .mov (.t 6), none, false⟩,
 ⟨(some 21), .indexS (.t 19) (.t 20), none, false⟩,
 ⟨(some 22), .bin .eql (.t 21) (.c (.int .u8 (45))), none, false⟩])
 (.cond (.t 22)
 (.exit 1)
 .skip))
 (.seq
 (.ops [⟨(some 23), .mov (.t 4), none, false⟩,
 ⟨(some 24), .mov (.t 6), none, false⟩,
 ⟨(some 25), .indexS (.t 23) (.t 24), none, false⟩,
 ⟨(some 26), .call (.c (.fn (.func F_wreckageref06_Signed) [] [])) [(.t 25)], none, false⟩])
 (.cond (.t 26)
 (.ops [⟨(some 27), .mov (.t 3), none, false⟩,
 ⟨(some 28), .mov (.t 6), none, false⟩,
 ⟨(some 29), .iaddrA 3 1 (.t 5) (.t 28), none, false⟩,
 ⟨(some 30), .load false 1 (.t 29), none, false⟩,
 ⟨(some 31), .call (.c (.fn (.func F_wreckageref02_Double) [] [])) [(.t 30)], none, false⟩,
 ⟨(some 32), .call (.c (.fn (.func F_wreckageref02_Minimal) [] [])) [(.t 31)], none, false⟩,
 ⟨(some 33), .app 1 1 (.t 27) (.t 32), none, false⟩,
 ⟨(some 3), .mov (.t 33), none, false⟩])
 (.ops [⟨(some 34), .mov (.t 3), none, false⟩,
 ⟨(some 35), .mov (.t 6), none, false⟩,
 ⟨(some 36), .iaddrA 3 1 (.t 5) (.t 35), none, false⟩,
 ⟨(some 37), .load false 1 (.t 36), none, false⟩,
 ⟨(some 38), .conv .u64 (.t 37), none, false⟩,
 ⟨(some 39), .call (.c (.fn (.func F_wreckageref02_Minimal) [] [])) [(.t 38)], none, false⟩,
 ⟨(some 40), .app 1 1 (.t 34) (.t 39), none, false⟩,
 ⟨(some 3), .mov (.t 40), none, false⟩])))))
 (.ops [⟨(some 17), .mov (.t 6), none, false⟩,
 ⟨(some 18), .bin .add (.t 17) (.c (.int .i64 (1))), none, false⟩,
 ⟨(some 6), .mov (.t 18), none, false⟩]))))))
 (.seq
 (.ops [⟨(some 41), .mov (.t 3), none, false⟩,
 ⟨(some 2), .mov (.t 41), none, false⟩])
 .ret)))))⟩
def n_wreckageref06_Coded : List (List Nat) := [[3, 4, 5, 6]]
theorem c_wreckageref06_Coded : compFn Try.prog Try.f42 n_wreckageref06_Coded = some a_wreckageref06_Coded := by kernel_rfl
-- 43 wreckage/wreckageref08.Coded
def a_wreckageref08_Coded : AFunc := ⟨41, [.tmp 2],
 (.seq
 (.ops [⟨(some 2), .mov (.c (.nils)), none, false⟩])
 (.seq
 (.ops [⟨(some 6), .mov (.t 0), none, false⟩,
 ⟨(some 7), .len (.t 6), none, false⟩,
 ⟨(some 8), .conv .u64 (.t 7), none, false⟩,
 ⟨(some 9), .call (.c (.fn (.func F_wreckageref02_Minimal) [] [])) [(.t 8)], none, false⟩,
 ⟨(some 3), .mov (.t 9), none, false⟩])
 (.seq
 (.ops [⟨(some 4), .mov (.c (.int .i64 (0))), none, false⟩])
 (.seq
 (.seq
 (.ops [⟨(some 5), .mov (.c (.int .i64 (0))), none, false⟩])
 (.block 0
 (.loop [0, 3, 4, 5]
 (.seq
 (.seq
 (.ops [⟨(some 10), .mov (.t 5), none, false⟩,
 ⟨(some 11), .mov (.t 0), none, false⟩,
 ⟨(some 12), .len (.t 11), none, false⟩,
 ⟨(some 13), .bin .lss (.t 10) (.t 12), none, false⟩])
 (.cond (.t 13)
 .skip
 (.exit 0)))
 (.seq
 (.block 1
 (.seq
 (.ops [⟨(some 16), .mov (.t 3), none, false⟩,
 ⟨(some 17), .mov (.t 0), none, false⟩,
 ⟨(some 18), .mov (.t 5), none, false⟩,
 ⟨(some 19), .iaddr 2 (.t 17) (.t 18), none, false⟩,
 ⟨(some 20), .faddr 0 (.t 19), none, false⟩,
 ⟨(some 21), .load false 1 (.t 20), none, false⟩,
 ⟨(some 22), .mov (.t 4), none, false⟩,
 ⟨(some 23), .bin .sub (.t 21) (.t 22), none, false⟩,
 ⟨(some 24), .conv .u64 (.t 23), none, false⟩,
 ⟨(some 25), .call (.c (.fn (.func F_wreckageref02_Minimal) [] [])) [(.t 24)], none, false⟩,
 ⟨(some 26), .app 1 1 (.t 16) (.t 25), none, false⟩,
 ⟨(some 3), .mov (.t 26), none, false⟩])
 (.seq
 (.ops [⟨(some 27), .mov (.t 3), none, false⟩,
 ⟨(some 28), .mov (.t 0), none, false⟩,
 ⟨(some 29), .mov (.t 5), none, false⟩,
 ⟨(some 30), .iaddr 2 (.t 28) (.t 29), none, false⟩,
 ⟨(some 31), .faddr 1 (.t 30), none, false⟩,
 ⟨(some 32), .load false 1 (.t 31), none, false⟩,
 ⟨(some 33), .call (.c (.fn (.func F_wreckageref02_Minimal) [] [])) [(.t 32)], none, false⟩,
 ⟨(some 34), .app 1 1 (.t 27) (.t 33), none, false⟩,
 ⟨(some 3), .mov (.t 34), none, false⟩])
 (.ops [⟨(some 35), .mov (.t 0), none, false⟩,
 ⟨(some 36), .mov (.t 5), none, false⟩,
 ⟨(some 37), .iaddr 2 (.t 35) (.t 36), none, false⟩,
 ⟨(some 38), .faddr 0 (.t 37), none, false⟩,
 ⟨(some 39), .load false 1 (.t 38), none, false⟩,
 ⟨(some 4), .mov (.t 39), none, false⟩]))))
 (.ops [⟨(some 14), .mov (.t 5), none, false⟩,
 ⟨(some 15), .bin .add (.t 14) (.c (.int .i64 (1))), none, false⟩,
 ⟨(some 5), .mov (.t 15), none, false⟩]))))))
 (.seq
 (.ops [⟨(some 40), .mov (.t 3), none, false⟩,
 ⟨(some 2), .mov (.t 40), none, false⟩])
 .ret)))))⟩
def n_wreckageref08_Coded : List (List Nat) := [[0, 3, 4, 5]]
theorem c_wreckageref08_Coded : compFn Try.prog Try.f43 n_wreckageref08_Coded = some a_wreckageref08_Coded := by kernel_rfl
-- 44 wreckage/wreckageref08.Fine
def a_wreckageref08_Fine : AFunc := ⟨61, [.tmp 4],
 (.seq
 (.ops [⟨(some 4), .mov (.c (.bool false)), none, false⟩])
 (.seq
 (.seq
 (.ops [⟨(some 6), .mov (.t 0), none, false⟩,
 ⟨(some 7), .len (.t 6), none, false⟩,
 ⟨(some 8), .bin .lss (.t 7) (.c (.int .i64 (1))), none, false⟩,
 ⟨(some 9), .mov (.t 8), none, false⟩,
 ⟨(some 10), .mov (.t 0), (some (9, false)), false⟩,
 ⟨(some 11), .iaddr 2 (.t 10) (.c (.int .i64 (0))), (some (9, false)), false⟩,
 ⟨(some 12), .faddr 0 (.t 11), (some (9, false)), false⟩,
 ⟨(some 13), .load false 1 (.t 12), (some (9, false)), false⟩,
 ⟨(some 14), .bin .neq (.t 13) (.c (.int .i64 (0))), (some (9, false)), false⟩,
 ⟨(some 15), .pick (.t 9) (.c (.bool true)) (.t 14), none, false⟩])
 (.cond (.t 15)
 (.seq
 (.ops [⟨(some 4), .mov (.c (.bool false)), none, false⟩])
 .ret)
 .skip))
 (.seq
 (.seq
 (.ops [⟨(some 5), .mov (.c (.int .i64 (0))), none, false⟩])
 (.block 0
 (.loop [0, 1, 5]
 (.seq
 (.seq
 (.ops [⟨(some 16), .mov (.t 5), none, false⟩,
 ⟨(some 17), .mov (.t 0), none, false⟩,
 ⟨(some 18), .len (.t 17), none, false⟩,
 ⟨(some 19), .bin .lss (.t 16) (.t 18), none, false⟩])
 (.cond (.t 19)
 .skip
 (.exit 0)))
 (.seq
 (.block 1
 (.seq
 (.draw [⟨(some 22), .mov (.t 0), none, false⟩,
 ⟨(some 23), .mov (.t 5), none, false⟩,
 ⟨(some 24), .iaddr 2 (.t 22) (.t 23), none, false⟩,
 ⟨(some 25), .faddr 0 (.t 24), none, false⟩,
 ⟨(some 26), .load false 1 (.t 25), none, false⟩,
 ⟨(some 27), .mov (.t 1), none, false⟩,
 ⟨(some 28), .bin .geq (.t 26) (.t 27), none, false⟩,
 ⟨(some 29), .mov (.t 28), none, false⟩,
 ⟨(some 30), .mov (.t 5), (some (29, false)), false⟩,
 ⟨(some 31), .bin .gtr (.t 30) (.c (.int .i64 (0))), (some (29, false)), false⟩,
 ⟨(some 32), .mov (.t 31), (some (29, false)), false⟩,
 ⟨(some 33), .mov (.t 0), (some (32, true)), false⟩,
 ⟨(some 34), .mov (.t 5), (some (32, true)), false⟩,
 ⟨(some 35), .bin .sub (.t 34) (.c (.int .i64 (1))), (some (32, true)), false⟩,
 ⟨(some 36), .iaddr 2 (.t 33) (.t 35), (some (32, true)), false⟩,
 ⟨(some 37), .faddr 0 (.t 36), (some (32, true)), false⟩,
 ⟨(some 38), .load false 1 (.t 37), (some (32, true)), false⟩,
 ⟨(some 39), .mov (.t 0), (some (32, true)), false⟩,
 ⟨(some 40), .mov (.t 5), (some (32, true)), false⟩,
 ⟨(some 41), .iaddr 2 (.t 39) (.t 40), (some (32, true)), false⟩,
 ⟨(some 42), .faddr 0 (.t 41), (some (32, true)), false⟩,
 ⟨(some 43), .load false 1 (.t 42), (some (32, true)), false⟩,
 ⟨(some 44), .bin .geq (.t 38) (.t 43), (some (32, true)), false⟩,
 ⟨(some 45), .mov (.t 44), (some (32, true)), false⟩,
 ⟨(some 46), .mov (.t 0), (some (45, false)), false⟩,
 ⟨(some 47), .mov (.t 5), (some (45, false)), false⟩,
 ⟨(some 48), .bin .sub (.t 47) (.c (.int .i64 (1))), (some (45, false)), false⟩,
 ⟨(some 49), .iaddr 2 (.t 46) (.t 48), (some (45, false)), false⟩,
 ⟨(some 50), .faddr 1 (.t 49), (some (45, false)), false⟩,
 ⟨(some 51), .load false 1 (.t 50), (some (45, false)), false⟩,
 ⟨(some 52), .mov (.t 0), (some (45, false)), false⟩,
 ⟨(some 53), .mov (.t 5), (some (45, false)), false⟩,
 ⟨(some 54), .iaddr 2 (.t 52) (.t 53), (some (45, false)), false⟩,
 ⟨(some 55), .faddr 1 (.t 54), (some (45, false)), false⟩,
 ⟨(some 56), .load false 1 (.t 55), (some (45, false)), false⟩,
 ⟨(some 57), .bin .eql (.t 51) (.t 56), (some (45, false)), false⟩,
 ⟨(some 58), .pick (.t 45) (.c (.bool true)) (.t 57), (some (32, true)), false⟩,
 ⟨(some 59), .pick (.t 32) (.t 58) (.c (.bool false)), (some (29, false)), false⟩,
 ⟨(some 60), .pick (.t 29) (.c (.bool true)) (.t 59), none, false⟩])
 (.cond (.t 60)
 (.seq
 (.ops [⟨(some 4), .mov (.c (.bool false)), none, false⟩])
 .ret)
 .skip)))
 (.ops [⟨(some 20), .mov (.t 5), none, false⟩,
 ⟨(some 21), .bin .add (.t 20) (.c (.int .i64 (1))), none, false⟩,
 ⟨(some 5), .mov (.t 21), none, false⟩]))))))
 (.seq
 (.ops [⟨(some 4), .mov (.c (.bool true)), none, false⟩])
 .ret))))⟩
def n_wreckageref08_Fine : List (List Nat) := [[0, 1, 5]]
theorem c_wreckageref08_Fine : compFn Try.prog Try.f44 n_wreckageref08_Fine = some a_wreckageref08_Fine := by kernel_rfl
-- 45 wreckage/kinds.Check
def a_kinds_Check : AFunc := ⟨29, [.tmp 2],
 (.seq
 (.ops [⟨(some 2), .mov (.c (.int .i64 (0))), none, false⟩])
 (.seq
 (.seq
 (.ops [⟨(some 6), .mov (.t 0), none, false⟩,
 ⟨(some 7), .len (.t 6), none, false⟩,
 ⟨(some 8), .bin .gtr (.t 7) (.c (.int .i64 (32))), none, false⟩])
 (.cond (.t 8)
 (.seq
 (.ops [⟨(some 2), .mov (.c (.int .i64 (8))), none, false⟩])
 .ret)
 .skip))
 (.seq
 (.seq
 (.ops [⟨(some 9), .mov (.t 0), none, false⟩,
 ⟨(some 10), .len (.t 9), none, false⟩,
 ⟨(some 11), .mov (.c (.int .i64 (0))), none, false⟩])
 (.block 0
 (.loop [0, 10, 11]
 (.seq
 (.ops [⟨(some 12), .bin .lss (.t 11) (.t 10), none, false⟩])
 (.seq
 (.cond (.t 12)
 .skip
 (.exit 0))
 (.seq
 (.block 1
 (.seq
 (.ops [⟨(some 13), .mov (.t 11), none, false⟩,
 ⟨(some 3), .mov (.t 13), none, false⟩])
 (.seq
 (.ops [⟨(some 14), .mov (.t 0), none, false⟩,
 ⟨(some 15), .mov (.t 3), none, false⟩,
 ⟨(some 16), .call (.c (.fn (.func F_kinds_fine) [] [])) [(.t 14), (.t 15)], none, false⟩,
 ⟨(some 17), .un .not (.t 16), none, false⟩])
 (.cond (.t 17)
 (.seq
 (.ops [⟨(some 2), .mov (.c (.int .i64 (8))), none, false⟩])
 .ret)
 .skip))))
 (.ops [⟨(some 18), .bin .add (.t 11) (.c (.int .i64 (1))), none, false⟩,
 ⟨(some 11), .mov (.t 18), none, false⟩])))))))
 (.seq
 (.seq
 (.ops [⟨(some 19), .mov (.t 0), none, false⟩,
 ⟨(some 20), .call (.c (.fn (.func F_kinds_widths) [] [])) [(.t 19)], none, false⟩,
 ⟨(some 21), .len (.t 20), none, false⟩,
 ⟨(some 22), .mov (.c (.int .i64 (0))), none, false⟩])
 (.block 2
 (.loop [20, 21, 22]
 (.seq
 (.ops [⟨(some 23), .bin .lss (.t 22) (.t 21), none, false⟩])
 (.seq
 (.cond (.t 23)
 .skip
 (.exit 2))
 (.seq
 (.block 3
 (.seq
 (.ops [⟨(some 24), .iaddr 1 (.t 20) (.t 22), none, false⟩,
 ⟨(some 25), .load false 1 (.t 24), none, false⟩,
 ⟨(some 5), .mov (.t 25), none, false⟩])
 (.seq
 (.ops [⟨(some 26), .mov (.t 5), none, false⟩,
 ⟨(some 27), .bin .gtr (.t 26) (.c (.int .i64 (5000))), none, false⟩])
 (.cond (.t 27)
 (.seq
 (.ops [⟨(some 2), .mov (.c (.int .i64 (8))), none, false⟩])
 .ret)
 .skip))))
 (.ops [⟨(some 28), .bin .add (.t 22) (.c (.int .i64 (1))), none, false⟩,
 ⟨(some 22), .mov (.t 28), none, false⟩])))))))
 (.seq
 (.ops [⟨(some 2), .mov (.c (.int .i64 (0))), none, false⟩])
 .ret)))))⟩
def n_kinds_Check : List (List Nat) := [[0, 10, 11], [20, 21, 22]]
theorem c_kinds_Check : compFn Try.prog Try.f45 n_kinds_Check = some a_kinds_Check := by kernel_rfl
-- 46 wreckage/layout.Size
def a_layout_Size : AFunc := ⟨27, [.tmp 4, .tmp 5, .tmp 6],
 (.seq
 (.ops [⟨(some 4), .mov (.c (.int .i64 (0))), none, false⟩,
 ⟨(some 5), .mov (.c (.int .i64 (0))), none, false⟩,
 ⟨(some 6), .mov (.c (.int .i64 (0))), none, false⟩])
 (.seq
 (.ops [⟨(some 9), .mov (.t 0), none, false⟩,
 ⟨(some 10), .mov (.t 1), none, false⟩,
 ⟨(some 11), .call (.c (.fn (.func F_layout_asked) [] [])) [(.t 9), (.t 10)], none, false⟩,
 ⟨(some 8), .mov (.t 11), none, false⟩,
 ⟨(some 12), .extract (.t 8) 0, none, false⟩,
 ⟨(some 13), .extract (.t 8) 1, none, false⟩,
 ⟨(some 7), .mov (.t 12), none, false⟩,
 ⟨(some 6), .mov (.t 13), none, false⟩])
 (.seq
 (.seq
 (.ops [⟨(some 14), .mov (.t 6), none, false⟩,
 ⟨(some 15), .bin .neq (.t 14) (.c (.int .i64 (0))), none, false⟩])
 (.cond (.t 15)
 (.seq
 (.ops [⟨(some 16), .mov (.t 6), none, false⟩,
 ⟨(some 4), .mov (.c (.int .i64 (0))), none, false⟩,
 ⟨(some 5), .mov (.c (.int .i64 (0))), none, false⟩,
 ⟨(some 6), .mov (.t 16), none, false⟩])
 .ret)
 .skip))
 (.seq
 (.draw [⟨(some 17), .mov (.t 7), none, false⟩,
 ⟨(some 18), .mov (.t 1), none, false⟩,
 ⟨(some 19), .iaddr 2 (.t 17) (.t 18), none, false⟩,
 ⟨(some 20), .faddr 0 (.t 19), none, false⟩,
 ⟨(some 21), .load false 1 (.t 20), none, false⟩,
 ⟨(some 22), .mov (.t 7), none, false⟩,
 ⟨(some 23), .mov (.t 1), none, false⟩,
 ⟨(some 24), .iaddr 2 (.t 22) (.t 23), none, false⟩,
 ⟨(some 25), .faddr 1 (.t 24), none, false⟩,
 ⟨(some 26), .load false 1 (.t 25), none, false⟩,
 ⟨(some 4), .mov (.t 21), none, false⟩,
 ⟨(some 5), .mov (.t 26), none, false⟩,
 ⟨(some 6), .mov (.c (.int .i64 (0))), none, false⟩])
 .ret))))⟩
def n_layout_Size : List (List Nat) := []
theorem c_layout_Size : compFn Try.prog Try.f46 n_layout_Size = some a_layout_Size := by kernel_rfl
-- 47 wreckage/image.function
def a_image_function : AFunc := ⟨95, [.tmp 4],
 (.seq
 (.ops [⟨(some 3), .box 7 (.t 1), none, false⟩,
 ⟨(some 4), .mov (.c (.bool false)), none, false⟩])
 (.seq
 (.seq
 (.ops [⟨(some 9), .faddr 0 (.t 3), none, false⟩,
 ⟨(some 10), .load false 1 (.t 9), none, false⟩,
 ⟨(some 11), .call (.c (.fn (.func F_kinds_Named) [] [])) [(.t 10)], none, false⟩,
 ⟨(some 12), .un .not (.t 11), none, false⟩,
 ⟨(some 13), .mov (.t 12), none, false⟩,
 ⟨(some 14), .faddr 3 (.t 3), (some (13, false)), false⟩,
 ⟨(some 15), .load false 1 (.t 14), (some (13, false)), false⟩,
 ⟨(some 16), .len (.t 15), (some (13, false)), false⟩,
 ⟨(some 17), .bin .gtr (.t 16) (.c (.int .i64 (16))), (some (13, false)), false⟩,
 ⟨(some 18), .pick (.t 13) (.c (.bool true)) (.t 17), none, false⟩,
 ⟨(some 19), .mov (.t 18), none, false⟩,
 ⟨(some 20), .faddr 3 (.t 3), (some (19, false)), false⟩,
 ⟨(some 21), .load false 1 (.t 20), (some (19, false)), false⟩,
 ⟨(some 22), .call (.c (.fn (.func F_image_named) [] [])) [(.t 21)], (some (19, false)), false⟩,
 ⟨(some 23), .un .not (.t 22), (some (19, false)), false⟩,
 ⟨(some 24), .pick (.t 19) (.c (.bool true)) (.t 23), none, false⟩,
 ⟨(some 25), .mov (.t 24), none, false⟩,
 ⟨(some 26), .faddr 1 (.t 3), (some (25, false)), false⟩,
 ⟨(some 27), .load false 1 (.t 26), (some (25, false)), false⟩,
 ⟨(some 28), .bin .lss (.t 27) (.c (.int .i64 (0))), (some (25, false)), false⟩,
 ⟨(some 29), .pick (.t 25) (.c (.bool true)) (.t 28), none, false⟩,
 ⟨(some 30), .mov (.t 29), none, false⟩,
 ⟨(some 31), .faddr 1 (.t 3), (some (30, false)), false⟩,
 ⟨(some 32), .load false 1 (.t 31), (some (30, false)), false⟩,
 ⟨(some 33), .faddr 3 (.t 3), (some (30, false)), false⟩,
 ⟨(some 34), .load false 1 (.t 33), (some (30, false)), false⟩,
 ⟨(some 35), .len (.t 34), (some (30, false)), false⟩,
 ⟨(some 36), .bin .gtr (.t 32) (.t 35), (some (30, false)), false⟩,
 ⟨(some 37), .pick (.t 30) (.c (.bool true)) (.t 36), none, false⟩,
 ⟨(some 38), .mov (.t 37), none, false⟩,
 ⟨(some 39), .faddr 2 (.t 3), (some (38, false)), false⟩,
 ⟨(some 40), .load false 1 (.t 39), (some (38, false)), false⟩,
 ⟨(some 41), .bin .lss (.t 40) (.c (.int .i64 (-1))), (some (38, false)), false⟩,
 ⟨(some 42), .pick (.t 38) (.c (.bool true)) (.t 41), none, false⟩,
 ⟨(some 43), .mov (.t 42), none, false⟩,
 ⟨(some 44), .faddr 2 (.t 3), (some (43, false)), false⟩,
 ⟨(some 45), .load false 1 (.t 44), (some (43, false)), false⟩,
 ⟨(some 46), .mov (.t 0), (some (43, false)), false⟩,
 ⟨(some 47), .len (.t 46), (some (43, false)), false⟩,
 ⟨(some 48), .bin .geq (.t 45) (.t 47), (some (43, false)), false⟩,
 ⟨(some 49), .pick (.t 43) (.c (.bool true)) (.t 48), none, false⟩])
 (.cond (.t 49)
 (.seq
 (.ops [⟨(some 4), .mov (.c (.bool false)), none, false⟩])
 .ret)
 .skip))
 (.seq
 (.seq
 (.ops [⟨(some 50), .faddr 3 (.t 3), none, false⟩,
 ⟨(some 51), .load false 1 (.t 50), none, false⟩,
 ⟨(some 52), .len (.t 51), none, false⟩,
 ⟨(some 53), .mov (.c (.int .i64 (0))), none, false⟩])
 (.block 0
 (.loop [0, 3, 51, 52, 53]
 (.seq
 (.ops [⟨(some 54), .bin .lss (.t 53) (.t 52), none, false⟩])
 (.seq
 (.cond (.t 54)
 .skip
 (.exit 0))
 (.seq
 (.block 1
 (.seq
 (.ops [⟨(some 55), .iaddr 2 (.t 51) (.t 53), none, false⟩,
 ⟨(some 56), .load true 2 (.t 55), none, false⟩,
 ⟨(some 6), .alloc [.str [], .int .i64 (0)], none, false⟩,
 ⟨none, .store 2 (.t 6) (.t 56), none, false⟩])
 (.seq
 (.ops [⟨(some 57), .faddr 1 (.t 6), none, false⟩,
 ⟨(some 58), .load false 1 (.t 57), none, false⟩,
 ⟨(some 59), .bin .lss (.t 58) (.c (.int .i64 (0))), none, false⟩,
 ⟨(some 60), .mov (.t 59), none, false⟩,
 ⟨(some 61), .faddr 1 (.t 6), (some (60, false)), false⟩,
 ⟨(some 62), .load false 1 (.t 61), (some (60, false)), false⟩,
 ⟨(some 63), .mov (.t 0), (some (60, false)), false⟩,
 ⟨(some 64), .len (.t 63), (some (60, false)), false⟩,
 ⟨(some 65), .bin .geq (.t 62) (.t 64), (some (60, false)), false⟩,
 ⟨(some 66), .pick (.t 60) (.c (.bool true)) (.t 65), none, false⟩])
 (.cond (.t 66)
 (.seq
 (.ops [⟨(some 4), .mov (.c (.bool false)), none, false⟩])
 .ret)
 .skip))))
 (.ops [⟨(some 67), .bin .add (.t 53) (.c (.int .i64 (1))), none, false⟩,
 ⟨(some 53), .mov (.t 67), none, false⟩])))))))
 (.seq
 (.seq
 (.ops [⟨(some 68), .faddr 4 (.t 3), none, false⟩,
 ⟨(some 69), .load false 1 (.t 68), none, false⟩,
 ⟨(some 70), .len (.t 69), none, false⟩,
 ⟨(some 71), .mov (.c (.int .i64 (0))), none, false⟩])
 (.block 2
 (.loop [3, 69, 70, 71]
 (.seq
 (.ops [⟨(some 72), .bin .lss (.t 71) (.t 70), none, false⟩])
 (.seq
 (.cond (.t 72)
 .skip
 (.exit 2))
 (.seq
 (.block 3
 (.seq
 (.ops [⟨(some 73), .iaddr 4 (.t 69) (.t 71), none, false⟩,
 ⟨(some 74), .load true 4 (.t 73), none, false⟩,
 ⟨(some 8), .alloc [.int .u8 (0), .int .i64 (0), .int .i64 (0), .int .i64 (0)], none, false⟩,
 ⟨none, .store 4 (.t 8) (.t 74), none, false⟩])
 (.seq
 (.ops [⟨(some 75), .load true 4 (.t 8), none, false⟩,
 ⟨(some 76), .call (.c (.fn (.func F_ops_Check) [] [])) [(.t 75)], none, false⟩,
 ⟨(some 77), .bin .neq (.t 76) (.c (.int .i64 (0))), none, false⟩])
 (.cond (.t 77)
 (.seq
 (.ops [⟨(some 4), .mov (.c (.bool false)), none, false⟩])
 .ret)
 .skip))))
 (.ops [⟨(some 78), .bin .add (.t 71) (.c (.int .i64 (1))), none, false⟩,
 ⟨(some 71), .mov (.t 78), none, false⟩])))))))
 (.seq
 (.ops [⟨(some 79), .faddr 5 (.t 3), none, false⟩,
 ⟨(some 80), .load false 1 (.t 79), none, false⟩,
 ⟨(some 81), .faddr 4 (.t 3), none, false⟩,
 ⟨(some 82), .load false 1 (.t 81), none, false⟩,
 ⟨(some 83), .len (.t 82), none, false⟩,
 ⟨(some 84), .call (.c (.fn (.func F_tables_Check) [] [])) [(.t 80), (.t 83)], none, false⟩,
 ⟨(some 85), .bin .eql (.t 84) (.c (.int .i64 (0))), none, false⟩,
 ⟨(some 86), .mov (.t 85), none, false⟩,
 ⟨(some 87), .faddr 6 (.t 3), (some (86, true)), false⟩,
 ⟨(some 88), .load false 1 (.t 87), (some (86, true)), false⟩,
 ⟨(some 89), .faddr 4 (.t 3), (some (86, true)), false⟩,
 ⟨(some 90), .load false 1 (.t 89), (some (86, true)), false⟩,
 ⟨(some 91), .len (.t 90), (some (86, true)), false⟩,
 ⟨(some 92), .call (.c (.fn (.func F_tables_Check) [] [])) [(.t 88), (.t 91)], (some (86, true)), false⟩,
 ⟨(some 93), .bin .eql (.t 92) (.c (.int .i64 (0))), (some (86, true)), false⟩,
 ⟨(some 94), .pick (.t 86) (.t 93) (.c (.bool false)), none, false⟩,
 ⟨(some 4), .mov (.t 94), none, false⟩])
 .ret)))))⟩
def n_image_function : List (List Nat) := [[0, 3, 51, 52, 53], [3, 69, 70, 71]]
theorem c_image_function : compFn Try.prog Try.f47 n_image_function = some a_image_function := by kernel_rfl
-- 48 (*wreckage/image.writer).fields
def a_image_writer_fields : AFunc := ⟨25, [],
 (.seq
 (.ops [⟨(some 6), .mov (.t 0), none, false⟩,
 ⟨(some 7), .mov (.t 1), none, false⟩,
 ⟨(some 8), .len (.t 7), none, false⟩,
 ⟨(some 9), .call (.c (.fn (.func F_image_writer_number) [] [])) [(.t 6), (.t 8)], none, false⟩])
 (.seq
 (.ops [⟨(some 10), .mov (.t 1), none, false⟩,
 ⟨(some 11), .len (.t 10), none, false⟩,
 ⟨(some 12), .mov (.c (.int .i64 (0))), none, false⟩])
 (.block 0
 (.loop [0, 10, 11, 12]
 (.seq
 (.ops [⟨(some 13), .bin .lss (.t 12) (.t 11), none, false⟩])
 (.seq
 (.cond (.t 13)
 .skip
 (.exit 0))
 (.seq
 (.block 1
 (.seq
 (.ops [⟨(some 14), .iaddr 2 (.t 10) (.t 12), none, false⟩,
 ⟨(some 15), .load true 2 (.t 14), none, false⟩,
 ⟨(some 5), .alloc [.str [], .int .i64 (0)], none, false⟩,
 ⟨none, .store 2 (.t 5) (.t 15), none, false⟩])
 (.seq
 (.ops [⟨(some 16), .mov (.t 0), none, false⟩,
 ⟨(some 17), .faddr 0 (.t 5), none, false⟩,
 ⟨(some 18), .load false 1 (.t 17), none, false⟩,
 ⟨(some 19), .call (.c (.fn (.func F_image_writer_text) [] [])) [(.t 16), (.t 18)], none, false⟩])
 (.ops [⟨(some 20), .mov (.t 0), none, false⟩,
 ⟨(some 21), .faddr 1 (.t 5), none, false⟩,
 ⟨(some 22), .load false 1 (.t 21), none, false⟩,
 ⟨(some 23), .call (.c (.fn (.func F_image_writer_number) [] [])) [(.t 20), (.t 22)], none, false⟩]))))
 (.ops [⟨(some 24), .bin .add (.t 12) (.c (.int .i64 (1))), none, false⟩,
 ⟨(some 12), .mov (.t 24), none, false⟩]))))))))⟩
def n_image_writer_fields : List (List Nat) := [[0, 10, 11, 12]]
theorem c_image_writer_fields : compFn Try.prog Try.f48 n_image_writer_fields = some a_image_writer_fields := by kernel_rfl
-- 49 wreckage/wire.Vary
def a_wire_Vary : AFunc := ⟨20, [.tmp 2],
 (.seq
 (.ops [⟨(some 2), .mov (.c (.nils)), none, false⟩])
 (.seq
 (.ops [⟨(some 3), .alloc [.nils], none, false⟩])
 (.seq
 (.ops [⟨(some 5), .mkfn (.func F_wire_Vary_1) [] [(.t 3)], none, false⟩,
 ⟨(some 4), .mov (.t 5), none, false⟩])
 (.seq
 (.block 0
 (.loop [0, 3, 4]
 (.seq
 (.seq
 (.ops [⟨(some 6), .mov (.t 0), none, false⟩,
 ⟨(some 7), .bin .geq (.t 6) (.c (.int .u64 (128))), none, false⟩])
 (.cond (.t 7)
 .skip
 (.exit 0)))
 (.seq
 (.block 1
 (.ops [⟨(some 10), .mov (.t 4), none, false⟩,
 ⟨(some 11), .mov (.t 0), none, false⟩,
 ⟨(some 12), .conv .u8 (.t 11), none, false⟩,
 ⟨(some 13), .bin .or (.t 12) (.c (.int .u8 (128))), none, false⟩,
 ⟨(some 14), .call (.t 10) [(.t 13)], none, false⟩]))
 (.ops [⟨(some 8), .mov (.t 0), none, false⟩,
 ⟨(some 9), .bin .shr (.t 8) (.c (.int .u64 (7))), none, false⟩,
 ⟨(some 0), .mov (.t 9), none, false⟩])))))
 (.seq
 (.ops [⟨(some 15), .mov (.t 4), none, false⟩,
 ⟨(some 16), .mov (.t 0), none, false⟩,
 ⟨(some 17), .conv .u8 (.t 16), none, false⟩,
 ⟨(some 18), .call (.t 15) [(.t 17)], none, false⟩])
 (.seq
 (.ops [⟨(some 19), .load false 1 (.t 3), none, false⟩,
 ⟨(some 2), .mov (.t 19), none, false⟩])
 .ret))))))⟩
def n_wire_Vary : List (List Nat) := [[0, 3, 4]]
theorem c_wire_Vary : compFn Try.prog Try.f49 n_wire_Vary = some a_wire_Vary := by kernel_rfl
-- 50 wreckage/wire.Signed
def a_wire_Signed : AFunc := ⟨11, [.tmp 2],
 (.seq
 (.ops [⟨(some 2), .mov (.c (.nils)), none, false⟩])
 (.seq
 (.ops [⟨(some 3), .mov (.t 0), none, false⟩,
 ⟨(some 4), .conv .u64 (.t 3), none, false⟩,
 ⟨(some 5), .bin .shl (.t 4) (.c (.int .u64 (1))), none, false⟩,
 ⟨(some 6), .mov (.t 0), none, false⟩,
 ⟨(some 7), .bin .shr (.t 6) (.c (.int .u64 (63))), none, false⟩,
 ⟨(some 8), .conv .u64 (.t 7), none, false⟩,
 ⟨(some 9), .bin .xor (.t 5) (.t 8), none, false⟩,
 ⟨(some 10), .call (.c (.fn (.func F_wire_Vary) [] [])) [(.t 9)], none, false⟩,
 ⟨(some 2), .mov (.t 10), none, false⟩])
 .ret))⟩
def n_wire_Signed : List (List Nat) := []
theorem c_wire_Signed : compFn Try.prog Try.f50 n_wire_Signed = some a_wire_Signed := by kernel_rfl
-- 51 wreckage/ops.Encode
def a_ops_Encode : AFunc := ⟨51, [.tmp 2, .tmp 3],
 (.seq
 (.ops [⟨(some 1), .box 4 (.t 0), none, false⟩,
 ⟨(some 2), .mov (.c (.nils)), none, false⟩,
 ⟨(some 3), .mov (.c (.int .i64 (0))), none, false⟩])
 (.seq
 (.seq
 (.ops [⟨(some 10), .load true 4 (.t 1), none, false⟩,
 ⟨(some 11), .call (.c (.fn (.func F_ops_Check) [] [])) [(.t 10)], none, false⟩,
 ⟨(some 4), .mov (.t 11), none, false⟩])
 (.seq
 (.ops [⟨(some 12), .mov (.t 4), none, false⟩,
 ⟨(some 13), .bin .neq (.t 12) (.c (.int .i64 (0))), none, false⟩])
 (.cond (.t 13)
 (.seq
 (.ops [⟨(some 14), .mov (.t 4), none, false⟩,
 ⟨(some 2), .mov (.c (.nils)), none, false⟩,
 ⟨(some 3), .mov (.t 14), none, false⟩])
 .ret)
 .skip)))
 (.seq
 (.ops [⟨(some 16), .faddr 0 (.t 1), none, false⟩,
 ⟨(some 17), .load false 1 (.t 16), none, false⟩,
 ⟨(some 18), .call (.c (.fn (.func F_ops_shape) [] [])) [(.t 17)], none, false⟩,
 ⟨(some 15), .mov (.t 18), none, false⟩,
 ⟨(some 19), .extract (.t 15) 0, none, false⟩,
 ⟨(some 20), .extract (.t 15) 1, none, false⟩,
 ⟨(some 5), .alloc [.int .i64 (0), .int .i64 (0), .bool false, .bool false, .int .i64 (0), .int .i64 (0), .bool false, .bool false, .int .i64 (0), .int .i64 (0), .bool false, .bool false], none, false⟩,
 ⟨none, .store 12 (.t 5) (.t 19), none, false⟩,
 ⟨(some 6), .mov (.t 20), none, false⟩])
 (.seq
 (.ops [⟨(some 21), .faddr 0 (.t 1), none, false⟩,
 ⟨(some 22), .load false 1 (.t 21), none, false⟩,
 ⟨(some 23), .lit 1 [(.t 22)], none, false⟩,
 ⟨(some 7), .mov (.t 23), none, false⟩])
 (.seq
 (.seq
 (.ops [⟨(some 24), .load true 4 (.t 1), none, false⟩,
 ⟨(some 25), .call (.c (.fn (.func F_ops_operands) [] [])) [(.t 24)], none, false⟩,
 ⟨(some 26), .mov (.c (.int .i64 (0))), none, false⟩])
 (.block 0
 (.loop [5, 6, 7, 25, 26]
 (.seq
 (.ops [⟨(some 27), .bin .lss (.t 26) (.c (.int .i64 (3))), none, false⟩])
 (.seq
 (.cond (.t 27)
 .skip
 (.exit 0))
 (.seq
 (.block 1
 (.seq
 (.ops [⟨(some 28), .mov (.t 26), none, false⟩,
 ⟨(some 29), .indexA 3 1 false (.t 25) (.t 26), none, false⟩,
 ⟨(some 8), .mov (.t 28), none, false⟩,
 ⟨(some 9), .mov (.t 29), none, false⟩])
 (.block 2
 (.seq
 (.ops [⟨(some 36), .mov (.t 8), none, false⟩,
 ⟨(some 37), .mov (.t 6), none, false⟩,
 ⟨(some 38), .bin .geq (.t 36) (.t 37), none, false⟩,
 ⟨(some 35), .mov (.t 38), none, false⟩])
 (.cond (.t 35)
 .skip
 (.seq
 (.ops [⟨(some 40), .mov (.t 8), none, false⟩,
 ⟨(some 41), .iaddrA 3 4 (.t 5) (.t 40), none, false⟩,
 ⟨(some 42), .faddr 0 (.t 41), none, false⟩,
 ⟨(some 43), .load false 1 (.t 42), none, false⟩,
 ⟨(some 44), .bin .lss (.t 43) (.c (.int .i64 (0))), none, false⟩,
 ⟨(some 39), .mov (.t 44), none, false⟩])
 (.cond (.t 39)
 (.ops [⟨(some 45), .mov (.t 7), none, false⟩,
 ⟨(some 46), .mov (.t 9), none, false⟩,
 ⟨(some 47), .call (.c (.fn (.func F_wire_Signed) [] [])) [(.t 46)], none, false⟩,
 ⟨(some 48), .app 1 1 (.t 45) (.t 47), none, false⟩,
 ⟨(some 7), .mov (.t 48), none, false⟩])
 (.ops [⟨(some 30), .mov (.t 7), none, false⟩,
 ⟨(some 31), .mov (.t 9), none, false⟩,
 ⟨(some 32), .conv .u64 (.t 31), none, false⟩,
 ⟨(some 33), .call (.c (.fn (.func F_wire_Vary) [] [])) [(.t 32)], none, false⟩,
 ⟨(some 34), .app 1 1 (.t 30) (.t 33), none, false⟩,
 ⟨(some 7), .mov (.t 34), none, false⟩]))))))))
 (.ops [⟨(some 49), .bin .add (.t 26) (.c (.int .i64 (1))), none, false⟩,
 ⟨(some 26), .mov (.t 49), none, false⟩])))))))
 (.seq
 (.ops [⟨(some 50), .mov (.t 7), none, false⟩,
 ⟨(some 2), .mov (.t 50), none, false⟩,
 ⟨(some 3), .mov (.c (.int .i64 (0))), none, false⟩])
 .ret))))))⟩
def n_ops_Encode : List (List Nat) := [[5, 6, 7, 25, 26]]
theorem c_ops_Encode : compFn Try.prog Try.f51 n_ops_Encode = some a_ops_Encode := by kernel_rfl
-- 52 wreckage/tables.Encode
def a_tables_Encode : AFunc := ⟨44, [.tmp 4, .tmp 5],
 (.seq
 (.ops [⟨(some 4), .mov (.c (.nils)), none, false⟩,
 ⟨(some 5), .mov (.c (.int .i64 (0))), none, false⟩])
 (.seq
 (.seq
 (.ops [⟨(some 11), .mov (.t 0), none, false⟩,
 ⟨(some 12), .mov (.t 1), none, false⟩,
 ⟨(some 13), .call (.c (.fn (.func F_tables_Check) [] [])) [(.t 11), (.t 12)], none, false⟩,
 ⟨(some 6), .mov (.t 13), none, false⟩])
 (.seq
 (.ops [⟨(some 14), .mov (.t 6), none, false⟩,
 ⟨(some 15), .bin .neq (.t 14) (.c (.int .i64 (0))), none, false⟩])
 (.cond (.t 15)
 (.seq
 (.ops [⟨(some 16), .mov (.t 6), none, false⟩,
 ⟨(some 4), .mov (.c (.nils)), none, false⟩,
 ⟨(some 5), .mov (.t 16), none, false⟩])
 .ret)
 .skip)))
 (.seq
 (.ops [⟨(some 17), .mov (.t 0), none, false⟩,
 ⟨(some 18), .len (.t 17), none, false⟩,
 ⟨(some 19), .conv .u64 (.t 18), none, false⟩,
 ⟨(some 20), .call (.c (.fn (.func F_wire_Vary) [] [])) [(.t 19)], none, false⟩,
 ⟨(some 7), .mov (.t 20), none, false⟩])
 (.seq
 (.ops [⟨(some 8), .mov (.c (.int .i64 (0))), none, false⟩])
 (.seq
 (.seq
 (.ops [⟨(some 21), .mov (.t 0), none, false⟩,
 ⟨(some 22), .len (.t 21), none, false⟩,
 ⟨(some 23), .mov (.c (.int .i64 (0))), none, false⟩])
 (.block 0
 (.loop [7, 8, 21, 22, 23]
 (.seq
 (.ops [⟨(some 24), .bin .lss (.t 23) (.t 22), none, false⟩])
 (.seq
 (.cond (.t 24)
 .skip
 (.exit 0))
 (.seq
 (.block 1
 (.seq
 (.ops [⟨(some 25), .iaddr 2 (.t 21) (.t 23), none, false⟩,
 ⟨(some 26), .load true 2 (.t 25), none, false⟩,
 ⟨(some 10), .alloc [.int .i64 (0), .int .u64 (0)], none, false⟩,
 ⟨none, .store 2 (.t 10) (.t 26), none, false⟩])
 (.seq
 (.ops [⟨(some 27), .mov (.t 7), none, false⟩,
 ⟨(some 28), .faddr 0 (.t 10), none, false⟩,
 ⟨(some 29), .load false 1 (.t 28), none, false⟩,
 ⟨(some 30), .mov (.t 8), none, false⟩,
 ⟨(some 31), .bin .sub (.t 29) (.t 30), none, false⟩,
 ⟨(some 32), .conv .u64 (.t 31), none, false⟩,
 ⟨(some 33), .call (.c (.fn (.func F_wire_Vary) [] [])) [(.t 32)], none, false⟩,
 ⟨(some 34), .app 1 1 (.t 27) (.t 33), none, false⟩,
 ⟨(some 7), .mov (.t 34), none, false⟩])
 (.seq
 (.ops [⟨(some 35), .mov (.t 7), none, false⟩,
 ⟨(some 36), .faddr 1 (.t 10), none, false⟩,
 ⟨(some 37), .load false 1 (.t 36), none, false⟩,
 ⟨(some 38), .call (.c (.fn (.func F_wire_Vary) [] [])) [(.t 37)], none, false⟩,
 ⟨(some 39), .app 1 1 (.t 35) (.t 38), none, false⟩,
 ⟨(some 7), .mov (.t 39), none, false⟩])
 (.ops [⟨(some 40), .faddr 0 (.t 10), none, false⟩,
 ⟨(some 41), .load false 1 (.t 40), none, false⟩,
 ⟨(some 8), .mov (.t 41), none, false⟩])))))
 (.ops [⟨(some 42), .bin .add (.t 23) (.c (.int .i64 (1))), none, false⟩,
 ⟨(some 23), .mov (.t 42), none, false⟩])))))))
 (.seq
 (.ops [⟨(some 43), .mov (.t 7), none, false⟩,
 ⟨(some 4), .mov (.t 43), none, false⟩,
 ⟨(some 5), .mov (.c (.int .i64 (0))), none, false⟩])
 .ret))))))⟩
def n_tables_Encode : List (List Nat) := [[7, 8, 21, 22, 23]]
theorem c_tables_Encode : compFn Try.prog Try.f52 n_tables_Encode = some a_tables_Encode := by kernel_rfl
-- 53 wreckage/wreckageref04.fine
def a_wreckageref04_fine : AFunc := ⟨127, [.tmp 4],
 (.seq
 (.ops [⟨(some 4), .mov (.c (.bool false)), none, false⟩])
 (.seq
 (.ops [⟨(some 7), .mov (.t 0), none, false⟩,
 ⟨(some 8), .mov (.t 1), none, false⟩,
 ⟨(some 9), .iaddr 4 (.t 7) (.t 8), none, false⟩,
 ⟨(some 10), .load true 4 (.t 9), none, false⟩,
 ⟨(some 5), .alloc [.int .u8 (0), .int .i64 (0), .int .i64 (0), .nils], none, false⟩,
 ⟨none, .store 4 (.t 5) (.t 10), none, false⟩])
 (.seq
 (.seq
 (.ops [⟨(some 11), .faddr 0 (.t 5), none, false⟩,
 ⟨(some 12), .load false 1 (.t 11), none, false⟩])
 (.block 0
 (.seq
 (.seq
 (.ops [⟨(some 14), .bin .eql (.t 12) (.c (.int .u8 (1))), none, false⟩,
 ⟨(some 13), .mov (.t 14), none, false⟩])
 (.cond (.t 13)
 .skip
 (.seq
 (.ops [⟨(some 15), .bin .eql (.t 12) (.c (.int .u8 (2))), none, false⟩,
 ⟨(some 13), .mov (.t 15), none, false⟩])
 (.cond (.t 13)
 .skip
 (.ops [⟨(some 16), .bin .eql (.t 12) (.c (.int .u8 (3))), none, false⟩,
 ⟨(some 13), .mov (.t 16), none, false⟩])))))
 (.cond (.t 13)
 (.seq
 (.ops [⟨(some 17), .faddr 1 (.t 5), none, false⟩,
 ⟨(some 18), .load false 1 (.t 17), none, false⟩,
 ⟨(some 19), .bin .eql (.t 18) (.c (.int .i64 (0))), none, false⟩,
 ⟨(some 20), .mov (.t 19), none, false⟩,
 ⟨(some 21), .faddr 2 (.t 5), (some (20, true)), false⟩,
 ⟨(some 22), .load false 1 (.t 21), (some (20, true)), false⟩,
 ⟨(some 23), .bin .eql (.t 22) (.c (.int .i64 (0))), (some (20, true)), false⟩,
 ⟨(some 24), .pick (.t 20) (.t 23) (.c (.bool false)), none, false⟩,
 ⟨(some 25), .mov (.t 24), none, false⟩,
 ⟨(some 26), .faddr 3 (.t 5), (some (25, true)), false⟩,
 ⟨(some 27), .load false 1 (.t 26), (some (25, true)), false⟩,
 ⟨(some 28), .len (.t 27), (some (25, true)), false⟩,
 ⟨(some 29), .bin .eql (.t 28) (.c (.int .i64 (0))), (some (25, true)), false⟩,
 ⟨(some 30), .pick (.t 25) (.t 29) (.c (.bool false)), none, false⟩,
 ⟨(some 4), .mov (.t 30), none, false⟩])
 .ret)
 (.seq
 (.seq
 (.ops [⟨(some 32), .bin .eql (.t 12) (.c (.int .u8 (4))), none, false⟩,
 ⟨(some 31), .mov (.t 32), none, false⟩])
 (.cond (.t 31)
 .skip
 (.ops [⟨(some 33), .bin .eql (.t 12) (.c (.int .u8 (7))), none, false⟩,
 ⟨(some 31), .mov (.t 33), none, false⟩])))
 (.cond (.t 31)
 (.seq
 (.ops [⟨(some 34), .faddr 1 (.t 5), none, false⟩,
 ⟨(some 35), .load false 1 (.t 34), none, false⟩,
 ⟨(some 36), .bin .geq (.t 35) (.c (.int .i64 (0))), none, false⟩,
 ⟨(some 37), .mov (.t 36), none, false⟩,
 ⟨(some 38), .faddr 1 (.t 5), (some (37, true)), false⟩,
 ⟨(some 39), .load false 1 (.t 38), (some (37, true)), false⟩,
 ⟨(some 40), .mov (.t 0), (some (37, true)), false⟩,
 ⟨(some 41), .len (.t 40), (some (37, true)), false⟩,
 ⟨(some 42), .bin .lss (.t 39) (.t 41), (some (37, true)), false⟩,
 ⟨(some 43), .pick (.t 37) (.t 42) (.c (.bool false)), none, false⟩,
 ⟨(some 44), .mov (.t 43), none, false⟩,
 ⟨(some 45), .faddr 2 (.t 5), (some (44, true)), false⟩,
 ⟨(some 46), .load false 1 (.t 45), (some (44, true)), false⟩,
 ⟨(some 47), .bin .eql (.t 46) (.c (.int .i64 (0))), (some (44, true)), false⟩,
 ⟨(some 48), .pick (.t 44) (.t 47) (.c (.bool false)), none, false⟩,
 ⟨(some 49), .mov (.t 48), none, false⟩,
 ⟨(some 50), .faddr 3 (.t 5), (some (49, true)), false⟩,
 ⟨(some 51), .load false 1 (.t 50), (some (49, true)), false⟩,
 ⟨(some 52), .len (.t 51), (some (49, true)), false⟩,
 ⟨(some 53), .bin .eql (.t 52) (.c (.int .i64 (0))), (some (49, true)), false⟩,
 ⟨(some 54), .pick (.t 49) (.t 53) (.c (.bool false)), none, false⟩,
 ⟨(some 4), .mov (.t 54), none, false⟩])
 .ret)
 (.seq
 (.ops [⟨(some 56), .bin .eql (.t 12) (.c (.int .u8 (6))), none, false⟩,
 ⟨(some 55), .mov (.t 56), none, false⟩])
 (.cond (.t 55)
 (.seq
 (.ops [⟨(some 57), .faddr 1 (.t 5), none, false⟩,
 ⟨(some 58), .load false 1 (.t 57), none, false⟩,
 ⟨(some 59), .bin .geq (.t 58) (.c (.int .i64 (0))), none, false⟩,
 ⟨(some 60), .mov (.t 59), none, false⟩,
 ⟨(some 61), .faddr 1 (.t 5), (some (60, true)), false⟩,
 ⟨(some 62), .load false 1 (.t 61), (some (60, true)), false⟩,
 ⟨(some 63), .mov (.t 1), (some (60, true)), false⟩,
 ⟨(some 64), .bin .lss (.t 62) (.t 63), (some (60, true)), false⟩,
 ⟨(some 65), .pick (.t 60) (.t 64) (.c (.bool false)), none, false⟩,
 ⟨(some 66), .mov (.t 65), none, false⟩,
 ⟨(some 67), .faddr 2 (.t 5), (some (66, true)), false⟩,
 ⟨(some 68), .load false 1 (.t 67), (some (66, true)), false⟩,
 ⟨(some 69), .bin .geq (.t 68) (.c (.int .i64 (1))), (some (66, true)), false⟩,
 ⟨(some 70), .pick (.t 66) (.t 69) (.c (.bool false)), none, false⟩,
 ⟨(some 71), .mov (.t 70), none, false⟩,
 ⟨(some 72), .faddr 2 (.t 5), (some (71, true)), false⟩,
 ⟨(some 73), .load false 1 (.t 72), (some (71, true)), false⟩,
 ⟨(some 74), .bin .leq (.t 73) (.c (.int .i64 (16))), (some (71, true)), false⟩,
 ⟨(some 75), .pick (.t 71) (.t 74) (.c (.bool false)), none, false⟩,
 ⟨(some 76), .mov (.t 75), none, false⟩,
 ⟨(some 77), .faddr 3 (.t 5), (some (76, true)), false⟩,
 ⟨(some 78), .load false 1 (.t 77), (some (76, true)), false⟩,
 ⟨(some 79), .len (.t 78), (some (76, true)), false⟩,
 ⟨(some 80), .bin .eql (.t 79) (.c (.int .i64 (0))), (some (76, true)), false⟩,
 ⟨(some 81), .pick (.t 76) (.t 80) (.c (.bool false)), none, false⟩,
 ⟨(some 4), .mov (.t 81), none, false⟩])
 .ret)
 (.seq
 (.ops [⟨(some 83), .bin .eql (.t 12) (.c (.int .u8 (5))), none, false⟩,
 ⟨(some 82), .mov (.t 83), none, false⟩])
 (.cond (.t 82)
 (.seq
 (.seq
 (.ops [⟨(some 6), .mov (.c (.int .i64 (0))), none, false⟩])
 (.block 1
 (.loop [1, 5, 6]
 (.seq
 (.seq
 (.ops [⟨(some 84), .mov (.t 6), none, false⟩,
 ⟨(some 85), .faddr 3 (.t 5), none, false⟩,
 ⟨(some 86), .load false 1 (.t 85), none, false⟩,
 ⟨(some 87), .len (.t 86), none, false⟩,
 ⟨(some 88), .bin .lss (.t 84) (.t 87), none, false⟩])
 (.cond (.t 88)
 .skip
 (.exit 1)))
 (.seq
 (.block 2
 (.seq
 (.ops [⟨(some 91), .faddr 3 (.t 5), none, false⟩,
 ⟨(some 92), .load false 1 (.t 91), none, false⟩,
 ⟨(some 93), .mov (.t 6), none, false⟩,
 ⟨(some 94), .iaddr 2 (.t 92) (.t 93), none, false⟩,
 ⟨(some 95), .faddr 1 (.t 94), none, false⟩,
 ⟨(some 96), .load false 1 (.t 95), none, false⟩,
 ⟨(some 97), .bin .lss (.t 96) (.c (.int .i64 (0))), none, false⟩,
 ⟨(some 98), .mov (.t 97), none, false⟩,
 ⟨(some 99), .faddr 3 (.t 5), (some (98, false)), false⟩,
 ⟨(some 100), .load false 1 (.t 99), (some (98, false)), false⟩,
 ⟨(some 101), .mov (.t 6), (some (98, false)), false⟩,
 ⟨(some 102), .iaddr 2 (.t 100) (.t 101), (some (98, false)), false⟩,
 ⟨(some 103), .faddr 1 (.t 102), (some (98, false)), false⟩,
 ⟨(some 104), .load false 1 (.t 103), (some (98, false)), false⟩,
 ⟨(some 105), .mov (.t 1), (some (98, false)), false⟩,
 ⟨(some 106), .bin .geq (.t 104) (.t 105), (some (98, false)), false⟩,
 ⟨(some 107), .pick (.t 98) (.c (.bool true)) (.t 106), none, false⟩])
 (.cond (.t 107)
 (.seq
 (.ops [⟨(some 4), .mov (.c (.bool false)), none, false⟩])
 .ret)
 .skip)))
 (.ops [⟨(some 89), .mov (.t 6), none, false⟩,
 ⟨(some 90), .bin .add (.t 89) (.c (.int .i64 (1))), none, false⟩,
 ⟨(some 6), .mov (.t 90), none, false⟩]))))))
 (.seq
 (.ops [⟨(some 108), .faddr 1 (.t 5), none, false⟩,
 ⟨(some 109), .load false 1 (.t 108), none, false⟩,
 ⟨(some 110), .bin .eql (.t 109) (.c (.int .i64 (0))), none, false⟩,
 ⟨(some 111), .mov (.t 110), none, false⟩,
 ⟨(some 112), .faddr 2 (.t 5), (some (111, true)), false⟩,
 ⟨(some 113), .load false 1 (.t 112), (some (111, true)), false⟩,
 ⟨(some 114), .bin .eql (.t 113) (.c (.int .i64 (0))), (some (111, true)), false⟩,
 ⟨(some 115), .pick (.t 111) (.t 114) (.c (.bool false)), none, false⟩,
 ⟨(some 116), .mov (.t 115), none, false⟩,
 ⟨(some 117), .faddr 3 (.t 5), (some (116, true)), false⟩,
 ⟨(some 118), .load false 1 (.t 117), (some (116, true)), false⟩,
 ⟨(some 119), .len (.t 118), (some (116, true)), false⟩,
 ⟨(some 120), .bin .gtr (.t 119) (.c (.int .i64 (0))), (some (116, true)), false⟩,
 ⟨(some 121), .pick (.t 116) (.t 120) (.c (.bool false)), none, false⟩,
 ⟨(some 122), .mov (.t 121), none, false⟩,
 ⟨(some 123), .faddr 3 (.t 5), (some (122, true)), false⟩,
 ⟨(some 124), .load false 1 (.t 123), (some (122, true)), false⟩,
 ⟨(some 125), .call (.c (.fn (.func F_wreckageref04_Fields) [] [])) [(.t 124), (.c (.int .i64 (8)))], (some (122, true)), false⟩,
 ⟨(some 126), .pick (.t 122) (.t 125) (.c (.bool false)), none, false⟩,
 ⟨(some 4), .mov (.t 126), none, false⟩])
 .ret))
 .skip))))))))))
 (.seq
 (.ops [⟨(some 4), .mov (.c (.bool false)), none, false⟩])
 .ret))))⟩
def n_wreckageref04_fine : List (List Nat) := [[1, 5, 6]]
theorem c_wreckageref04_fine : compFn Try.prog Try.f53 n_wreckageref04_fine = some a_wreckageref04_fine := by kernel_rfl
-- 54 wreckage/wreckageref04.Widths
def a_wreckageref04_Widths : AFunc := ⟨106, [.tmp 4],
 (.seq
 (.ops [⟨(some 4), .mov (.c (.nils)), none, false⟩])
 (.seq
 (.ops [⟨(some 5), .mov (.c (.nils)), none, false⟩])
 (.seq
 (.seq
 (.ops [⟨(some 12), .mov (.t 1), none, false⟩,
 ⟨(some 13), .bin .gtr (.t 12) (.c (.int .i64 (0))), none, false⟩])
 (.cond (.t 13)
 (.ops [⟨(some 14), .mov (.t 0), none, false⟩,
 ⟨(some 15), .mov (.t 1), none, false⟩,
 ⟨(some 16), .bin .sub (.t 15) (.c (.int .i64 (1))), none, false⟩,
 ⟨(some 17), .call (.c (.fn (.func F_wreckageref04_Widths) [] [])) [(.t 14), (.t 16)], none, false⟩,
 ⟨(some 5), .mov (.t 17), none, false⟩])
 .skip))
 (.seq
 (.ops [⟨(some 6), .mov (.c (.nils)), none, false⟩])
 (.seq
 (.seq
 (.ops [⟨(some 7), .mov (.c (.int .i64 (0))), none, false⟩])
 (.block 0
 (.loop [0, 1, 5, 6, 7]
 (.seq
 (.seq
 (.ops [⟨(some 18), .mov (.t 7), none, false⟩,
 ⟨(some 19), .mov (.t 0), none, false⟩,
 ⟨(some 20), .len (.t 19), none, false⟩,
 ⟨(some 21), .bin .lss (.t 18) (.t 20), none, false⟩])
 (.cond (.t 21)
 .skip
 (.exit 0)))
 (.seq
 (.block 1
 (.seq
 (.ops [⟨(some 24), .mov (.t 0), none, false⟩,
 ⟨(some 25), .mov (.t 7), none, false⟩,
 ⟨(some 26), .iaddr 4 (.t 24) (.t 25), none, false⟩,
 ⟨(some 27), .load true 4 (.t 26), none, false⟩,
 ⟨(some 28), .call (.c (.fn (.func F_wreckageref04_Parts) [] [])) [(.t 27)], none, false⟩,
 ⟨(some 8), .mov (.c (.int .i64 (1))), none, false⟩,
 ⟨(some 9), .mov (.t 28), none, false⟩])
 (.seq
 (.seq
 (.ops [⟨(some 10), .mov (.c (.int .i64 (0))), none, false⟩])
 (.block 2
 (.loop [0, 1, 5, 6, 7, 8, 9, 10]
 (.seq
 (.seq
 (.ops [⟨(some 29), .mov (.t 10), none, false⟩,
 ⟨(some 30), .mov (.t 9), none, false⟩,
 ⟨(some 31), .len (.t 30), none, false⟩,
 ⟨(some 32), .bin .lss (.t 29) (.t 31), none, false⟩])
 (.cond (.t 32)
 .skip
 (.exit 2)))
 (.seq
 (.block 3
 (.seq
 (.ops [⟨(some 11), .mov (.c (.int .i64 (1))), none, false⟩])
 (.seq
 (.seq
 (.ops [⟨(some 35), .mov (.t 0), none, false⟩,
 ⟨(some 36), .mov (.t 7), none, false⟩,
 ⟨(some 37), .iaddr 4 (.t 35) (.t 36), none, false⟩,
 ⟨(some 38), .faddr 0 (.t 37), none, false⟩,
 ⟨(some 39), .load false 1 (.t 38), none, false⟩,
 ⟨(some 40), .bin .eql (.t 39) (.c (.int .u8 (6))), none, false⟩])
 (.cond (.t 40)
 (.ops [⟨(some 41), .mov (.t 0), none, false⟩,
 ⟨(some 42), .mov (.t 7), none, false⟩,
 ⟨(some 43), .iaddr 4 (.t 41) (.t 42), none, false⟩,
 ⟨(some 44), .faddr 2 (.t 43), none, false⟩,
 ⟨(some 45), .load false 1 (.t 44), none, false⟩,
 ⟨(some 11), .mov (.t 45), none, false⟩])
 .skip))
 (.ops [⟨(some 46), .mov (.t 8), none, false⟩,
 ⟨(some 47), .mov (.t 11), none, false⟩,
 ⟨(some 48), .mov (.t 6), none, false⟩,
 ⟨(some 49), .mov (.t 9), none, false⟩,
 ⟨(some 50), .mov (.t 10), none, false⟩,
 ⟨(some 51), .iaddr 1 (.t 49) (.t 50), none, false⟩,
 ⟨(some 52), .load false 1 (.t 51), none, false⟩,
 ⟨(some 53), .iaddr 1 (.t 48) (.t 52), none, false⟩,
 ⟨(some 54), .load false 1 (.t 53), none, false⟩,
 ⟨(some 55), .bin .mul (.t 47) (.t 54), none, false⟩,
 ⟨(some 56), .bin .add (.t 46) (.t 55), none, false⟩,
 ⟨(some 57), .mn (.t 56) (.c (.int .i64 (5001))), none, false⟩,
 ⟨(some 8), .mov (.t 57), none, false⟩]))))
 (.ops [⟨(some 33), .mov (.t 10), none, false⟩,
 ⟨(some 34), .bin .add (.t 33) (.c (.int .i64 (1))), none, false⟩,
 ⟨(some 10), .mov (.t 34), none, false⟩]))))))
 (.seq
 (.seq
 (.ops [⟨(some 58), .mov (.t 1), none, false⟩,
 ⟨(some 59), .bin .gtr (.t 58) (.c (.int .i64 (0))), none, false⟩,
 ⟨(some 60), .mov (.t 59), none, false⟩,
 ⟨(some 61), .mov (.t 0), (some (60, true)), false⟩,
 ⟨(some 62), .mov (.t 7), (some (60, true)), false⟩,
 ⟨(some 63), .iaddr 4 (.t 61) (.t 62), (some (60, true)), false⟩,
 ⟨(some 64), .faddr 0 (.t 63), (some (60, true)), false⟩,
 ⟨(some 65), .load false 1 (.t 64), (some (60, true)), false⟩,
 ⟨(some 66), .bin .eql (.t 65) (.c (.int .u8 (4))), (some (60, true)), false⟩,
 ⟨(some 67), .pick (.t 60) (.t 66) (.c (.bool false)), none, false⟩])
 (.cond (.t 67)
 (.ops [⟨(some 68), .mov (.t 8), none, false⟩,
 ⟨(some 69), .mov (.t 5), none, false⟩,
 ⟨(some 70), .mov (.t 0), none, false⟩,
 ⟨(some 71), .mov (.t 7), none, false⟩,
 ⟨(some 72), .iaddr 4 (.t 70) (.t 71), none, false⟩,
 ⟨(some 73), .faddr 1 (.t 72), none, false⟩,
 ⟨(some 74), .load false 1 (.t 73), none, false⟩,
 ⟨(some 75), .iaddr 1 (.t 69) (.t 74), none, false⟩,
 ⟨(some 76), .load false 1 (.t 75), none, false⟩,
 ⟨(some 77), .bin .add (.t 68) (.t 76), none, false⟩,
 ⟨(some 78), .mn (.t 77) (.c (.int .i64 (5001))), none, false⟩,
 ⟨(some 8), .mov (.t 78), none, false⟩])
 .skip))
 (.seq
 (.seq
 (.ops [⟨(some 79), .mov (.t 1), none, false⟩,
 ⟨(some 80), .bin .gtr (.t 79) (.c (.int .i64 (0))), none, false⟩,
 ⟨(some 81), .mov (.t 80), none, false⟩,
 ⟨(some 82), .mov (.t 0), (some (81, true)), false⟩,
 ⟨(some 83), .mov (.t 7), (some (81, true)), false⟩,
 ⟨(some 84), .iaddr 4 (.t 82) (.t 83), (some (81, true)), false⟩,
 ⟨(some 85), .faddr 0 (.t 84), (some (81, true)), false⟩,
 ⟨(some 86), .load false 1 (.t 85), (some (81, true)), false⟩,
 ⟨(some 87), .bin .eql (.t 86) (.c (.int .u8 (7))), (some (81, true)), false⟩,
 ⟨(some 88), .pick (.t 81) (.t 87) (.c (.bool false)), none, false⟩])
 (.cond (.t 88)
 (.ops [⟨(some 89), .mov (.t 8), none, false⟩,
 ⟨(some 90), .mov (.t 5), none, false⟩,
 ⟨(some 91), .mov (.t 0), none, false⟩,
 ⟨(some 92), .mov (.t 7), none, false⟩,
 ⟨(some 93), .iaddr 4 (.t 91) (.t 92), none, false⟩,
 ⟨(some 94), .faddr 1 (.t 93), none, false⟩,
 ⟨(some 95), .load false 1 (.t 94), none, false⟩,
 ⟨(some 96), .iaddr 1 (.t 90) (.t 95), none, false⟩,
 ⟨(some 97), .load false 1 (.t 96), none, false⟩,
 ⟨(some 98), .bin .mul (.c (.int .i64 (16))) (.t 97), none, false⟩,
 ⟨(some 99), .bin .add (.t 89) (.t 98), none, false⟩,
 ⟨(some 100), .mn (.t 99) (.c (.int .i64 (5001))), none, false⟩,
 ⟨(some 8), .mov (.t 100), none, false⟩])
 .skip))
 (.ops [⟨(some 101), .mov (.t 6), none, false⟩,
 ⟨(some 102), .mov (.t 8), none, false⟩,
 ⟨(some 103), .lit 1 [(.t 102)], none, false⟩,
 ⟨(some 104), .app 1 8 (.t 101) (.t 103), none, false⟩,
 ⟨(some 6), .mov (.t 104), none, false⟩]))))))
 (.ops [⟨(some 22), .mov (.t 7), none, false⟩,
 ⟨(some 23), .bin .add (.t 22) (.c (.int .i64 (1))), none, false⟩,
 ⟨(some 7), .mov (.t 23), none, false⟩]))))))
 (.seq
 (.ops [⟨(some 105), .mov (.t 6), none, false⟩,
 ⟨(some 4), .mov (.t 105), none, false⟩])
 .ret))))))⟩
def n_wreckageref04_Widths : List (List Nat) := [[0, 1, 5, 6, 7], [0, 1, 5, 6, 7, 8, 9, 10]]
theorem c_wreckageref04_Widths : compFn Try.prog Try.f54 n_wreckageref04_Widths = some a_wreckageref04_Widths := by kernel_rfl
-- 55 wreckage/wreckageref05.together
def a_wreckageref05_together : AFunc := ⟨55, [.tmp 6, .tmp 7, .tmp 8],
 (.seq
 (.ops [⟨(some 6), .mov (.c (.nils)), none, false⟩,
 ⟨(some 7), .mov (.c (.int .i64 (0))), none, false⟩,
 ⟨(some 8), .mov (.c (.int .i64 (0))), none, false⟩])
 (.seq
 (.ops [⟨(some 9), .mov (.c (.nils)), none, false⟩])
 (.seq
 (.ops [⟨(some 10), .mov (.c (.int .i64 (0))), none, false⟩,
 ⟨(some 11), .mov (.c (.int .i64 (1))), none, false⟩])
 (.seq
 (.seq
 (.ops [⟨(some 12), .mov (.c (.int .i64 (0))), none, false⟩])
 (.block 0
 (.loop [0, 1, 2, 9, 10, 11, 12]
 (.seq
 (.seq
 (.ops [⟨(some 15), .mov (.t 12), none, false⟩,
 ⟨(some 16), .mov (.t 2), none, false⟩,
 ⟨(some 17), .len (.t 16), none, false⟩,
 ⟨(some 18), .bin .lss (.t 15) (.t 17), none, false⟩])
 (.cond (.t 18)
 .skip
 (.exit 0)))
 (.seq
 (.block 1
 (.seq
 (.ops [⟨(some 21), .mov (.t 2), none, false⟩,
 ⟨(some 22), .mov (.t 12), none, false⟩,
 ⟨(some 23), .iaddr 2 (.t 21) (.t 22), none, false⟩,
 ⟨(some 24), .faddr 1 (.t 23), none, false⟩,
 ⟨(some 25), .load false 1 (.t 24), none, false⟩,
 ⟨(some 13), .mov (.t 25), none, false⟩])
 (.seq
 (.ops [⟨(some 26), .mov (.t 10), none, false⟩,
 ⟨(some 27), .mov (.t 1), none, false⟩,
 ⟨(some 28), .mov (.t 13), none, false⟩,
 ⟨(some 29), .iaddr 1 (.t 27) (.t 28), none, false⟩,
 ⟨(some 30), .load false 1 (.t 29), none, false⟩,
 ⟨(some 31), .call (.c (.fn (.func F_wreckageref05_up) [] [])) [(.t 26), (.t 30)], none, false⟩,
 ⟨(some 14), .mov (.t 31), none, false⟩])
 (.seq
 (.ops [⟨(some 32), .mov (.t 9), none, false⟩,
 ⟨(some 33), .mov (.t 14), none, false⟩,
 ⟨(some 34), .lit 1 [(.t 33)], none, false⟩,
 ⟨(some 35), .app 1 8 (.t 32) (.t 34), none, false⟩,
 ⟨(some 9), .mov (.t 35), none, false⟩])
 (.seq
 (.ops [⟨(some 36), .mov (.t 14), none, false⟩,
 ⟨(some 37), .mov (.t 0), none, false⟩,
 ⟨(some 38), .mov (.t 13), none, false⟩,
 ⟨(some 39), .iaddr 1 (.t 37) (.t 38), none, false⟩,
 ⟨(some 40), .load false 1 (.t 39), none, false⟩,
 ⟨(some 41), .bin .add (.t 36) (.t 40), none, false⟩,
 ⟨(some 42), .mn (.c (.int .i64 (1000000))) (.t 41), none, false⟩,
 ⟨(some 10), .mov (.t 42), none, false⟩])
 (.ops [⟨(some 43), .mov (.t 11), none, false⟩,
 ⟨(some 44), .mov (.t 1), none, false⟩,
 ⟨(some 45), .mov (.t 13), none, false⟩,
 ⟨(some 46), .iaddr 1 (.t 44) (.t 45), none, false⟩,
 ⟨(some 47), .load false 1 (.t 46), none, false⟩,
 ⟨(some 48), .mx (.t 43) (.t 47), none, false⟩,
 ⟨(some 11), .mov (.t 48), none, false⟩]))))))
 (.ops [⟨(some 19), .mov (.t 12), none, false⟩,
 ⟨(some 20), .bin .add (.t 19) (.c (.int .i64 (1))), none, false⟩,
 ⟨(some 12), .mov (.t 20), none, false⟩]))))))
 (.seq
 (.ops [⟨(some 49), .mov (.t 9), none, false⟩,
 ⟨(some 50), .mov (.t 10), none, false⟩,
 ⟨(some 51), .mov (.t 11), none, false⟩,
 ⟨(some 52), .call (.c (.fn (.func F_wreckageref05_up) [] [])) [(.t 50), (.t 51)], none, false⟩,
 ⟨(some 53), .mn (.c (.int .i64 (1000000))) (.t 52), none, false⟩,
 ⟨(some 54), .mov (.t 11), none, false⟩,
 ⟨(some 6), .mov (.t 49), none, false⟩,
 ⟨(some 7), .mov (.t 53), none, false⟩,
 ⟨(some 8), .mov (.t 54), none, false⟩])
 .ret)))))⟩
def n_wreckageref05_together : List (List Nat) := [[0, 1, 2, 9, 10, 11, 12]]
theorem c_wreckageref05_together : compFn Try.prog Try.f55 n_wreckageref05_together = some a_wreckageref05_together := by kernel_rfl
-- 56 wreckage/wreckageref04.Named
def a_wreckageref04_Named : AFunc := ⟨41, [.tmp 2],
 (.seq
 (.ops [⟨(some 2), .mov (.c (.bool false)), none, false⟩])
 (.seq
 (.seq
 (.ops [⟨(some 4), .mov (.t 0), none, false⟩,
 ⟨(some 5), .lenS (.t 4), none, false⟩,
 ⟨(some 6), .bin .lss (.t 5) (.c (.int .i64 (1))), none, false⟩,
 ⟨(some 7), .mov (.t 6), none, false⟩,
 ⟨(some 8), .mov (.t 0), (some (7, false)), false⟩,
 ⟨(some 9), .lenS (.t 8), (some (7, false)), false⟩,
 ⟨(some 10), .bin .gtr (.t 9) (.c (.int .i64 (16))), (some (7, false)), false⟩,
 ⟨(some 11), .pick (.t 7) (.c (.bool true)) (.t 10), none, false⟩,
 ⟨(some 12), .mov (.t 11), none, false⟩,
 ⟨(some 13), .mov (.t 0), (some (12, false)), false⟩,
 ⟨(some 14), .indexS (.t 13) (.c (.int .i64 (0))), (some (12, false)), false⟩,
 ⟨(some 15), .call (.c (.fn (.func F_wreckageref04_Letter) [] [])) [(.t 14)], (some (12, false)), false⟩,
 ⟨(some 16), .un .not (.t 15), (some (12, false)), false⟩,
 ⟨(some 17), .pick (.t 12) (.c (.bool true)) (.t 16), none, false⟩])
 (.cond (.t 17)
 (.seq
 (.ops [⟨(some 2), .mov (.c (.bool false)), none, false⟩])
 .ret)
 .skip))
 (.seq
 (.seq
 (.ops [⟨(some 3), .mov (.c (.int .i64 (0))), none, false⟩])
 (.block 0
 (.loop [0, 3]
 (.seq
 (.seq
 (.ops [⟨(some 18), .mov (.t 3), none, false⟩,
 ⟨(some 19), .mov (.t 0), none, false⟩,
 ⟨(some 20), .lenS (.t 19), none, false⟩,
 ⟨(some 21), .bin .lss (.t 18) (.t 20), none, false⟩])
 (.cond (.t 21)
 .skip
 (.exit 0)))
 (.seq
 (.block 1
 (.seq
 (.ops [⟨(some 24), .mov (.t 0), none, false⟩,
 ⟨(some 25), .mov (.t 3), none, false⟩,
 ⟨(some 26), .indexS (.t 24) (.t 25), none, false⟩,
 ⟨(some 27), .call (.c (.fn (.func F_wreckageref04_Letter) [] [])) [(.t 26)], none, false⟩,
 ⟨(some 28), .un .not (.t 27), none, false⟩,
 ⟨(some 29), .mov (.t 28), none, false⟩,
 ⟨(some 30), .mov (.t 0), (some (29, true)), false⟩,
 ⟨(some 31), .mov (.t 3), (some (29, true)), false⟩,
 ⟨(some 32), .indexS (.t 30) (.t 31), (some (29, true)), false⟩,
 ⟨(some 33), .bin .lss (.t 32) (.c (.int .u8 (48))), (some (29, true)), false⟩,
 ⟨(some 34), .mov (.t 33), (some (29, true)), false⟩,
 ⟨(some 35), .mov (.t 0), (some (34, false)), false⟩,
 ⟨(some 36), .mov (.t 3), (some (34, false)), false⟩,
 ⟨(some 37), .indexS (.t 35) (.t 36), (some (34, false)), false⟩,
 ⟨(some 38), .bin .gtr (.t 37) (.c (.int .u8 (57))), (some (34, false)), false⟩,
 ⟨(some 39), .pick (.t 34) (.c (.bool true)) (.t 38), (some (29, true)), false⟩,
 ⟨(some 40), .pick (.t 29) (.t 39) (.c (.bool false)), none, false⟩])
 (.cond (.t 40)
 (.seq
 (.ops [⟨(some 2), .mov (.c (.bool false)), none, false⟩])
 .ret)
 .skip)))
 (.ops [⟨(some 22), .mov (.t 3), none, false⟩,
 ⟨(some 23), .bin .add (.t 22) (.c (.int .i64 (1))), none, false⟩,
 ⟨(some 3), .mov (.t 23), none, false⟩]))))))
 (.seq
 (.ops [⟨(some 2), .mov (.c (.bool true)), none, false⟩])
 .ret))))⟩
def n_wreckageref04_Named : List (List Nat) := [[0, 3]]
theorem c_wreckageref04_Named : compFn Try.prog Try.f56 n_wreckageref04_Named = some a_wreckageref04_Named := by kernel_rfl
-- 57 wreckage/wreckageref04.Fields
def a_wreckageref04_Fields : AFunc := ⟨40, [.tmp 4],
 (.seq
 (.ops [⟨(some 4), .mov (.c (.bool false)), none, false⟩])
 (.seq
 (.seq
 (.ops [⟨(some 7), .mov (.t 0), none, false⟩,
 ⟨(some 8), .len (.t 7), none, false⟩,
 ⟨(some 9), .mov (.t 1), none, false⟩,
 ⟨(some 10), .bin .gtr (.t 8) (.t 9), none, false⟩])
 (.cond (.t 10)
 (.seq
 (.ops [⟨(some 4), .mov (.c (.bool false)), none, false⟩])
 .ret)
 .skip))
 (.seq
 (.seq
 (.ops [⟨(some 5), .mov (.c (.int .i64 (0))), none, false⟩])
 (.block 0
 (.loop [0, 5]
 (.seq
 (.seq
 (.ops [⟨(some 11), .mov (.t 5), none, false⟩,
 ⟨(some 12), .mov (.t 0), none, false⟩,
 ⟨(some 13), .len (.t 12), none, false⟩,
 ⟨(some 14), .bin .lss (.t 11) (.t 13), none, false⟩])
 (.cond (.t 14)
 .skip
 (.exit 0)))
 (.seq
 (.block 1
 (.seq
 (.seq
 (.ops [⟨(some 17), .mov (.t 0), none, false⟩,
 ⟨(some 18), .mov (.t 5), none, false⟩,
 ⟨(some 19), .iaddr 2 (.t 17) (.t 18), none, false⟩,
 ⟨(some 20), .faddr 0 (.t 19), none, false⟩,
 ⟨(some 21), .load false 1 (.t 20), none, false⟩,
 ⟨(some 22), .call (.c (.fn (.func F_wreckageref04_Named) [] [])) [(.t 21)], none, false⟩,
 ⟨(some 23), .un .not (.t 22), none, false⟩])
 (.cond (.t 23)
 (.seq
 (.ops [⟨(some 4), .mov (.c (.bool false)), none, false⟩])
 .ret)
 .skip))
 (.seq
 (.ops [⟨(some 6), .mov (.c (.int .i64 (0))), none, false⟩])
 (.block 2
 (.loop [0, 5, 6]
 (.seq
 (.seq
 (.ops [⟨(some 24), .mov (.t 6), none, false⟩,
 ⟨(some 25), .mov (.t 5), none, false⟩,
 ⟨(some 26), .bin .lss (.t 24) (.t 25), none, false⟩])
 (.cond (.t 26)
 .skip
 (.exit 2)))
 (.seq
 (.block 3
 (.seq
 (.draw [⟨(some 29), .mov (.t 0), none, false⟩,
 ⟨(some 30), .mov (.t 6), none, false⟩,
 ⟨(some 31), .iaddr 2 (.t 29) (.t 30), none, false⟩,
 ⟨(some 32), .faddr 0 (.t 31), none, false⟩,
 ⟨(some 33), .load false 1 (.t 32), none, false⟩,
 ⟨(some 34), .mov (.t 0), none, false⟩,
 ⟨(some 35), .mov (.t 5), none, false⟩,
 ⟨(some 36), .iaddr 2 (.t 34) (.t 35), none, false⟩,
 ⟨(some 37), .faddr 0 (.t 36), none, false⟩,
 ⟨(some 38), .load false 1 (.t 37), none, false⟩,
 ⟨(some 39), .bin .eql (.t 33) (.t 38), none, false⟩])
 (.cond (.t 39)
 (.seq
 (.ops [⟨(some 4), .mov (.c (.bool false)), none, false⟩])
 .ret)
 .skip)))
 (.ops [⟨(some 27), .mov (.t 6), none, false⟩,
 ⟨(some 28), .bin .add (.t 27) (.c (.int .i64 (1))), none, false⟩,
 ⟨(some 6), .mov (.t 28), none, false⟩]))))))))
 (.ops [⟨(some 15), .mov (.t 5), none, false⟩,
 ⟨(some 16), .bin .add (.t 15) (.c (.int .i64 (1))), none, false⟩,
 ⟨(some 5), .mov (.t 16), none, false⟩]))))))
 (.seq
 (.ops [⟨(some 4), .mov (.c (.bool true)), none, false⟩])
 .ret))))⟩
def n_wreckageref04_Fields : List (List Nat) := [[0, 5], [0, 5, 6]]
theorem c_wreckageref04_Fields : compFn Try.prog Try.f57 n_wreckageref04_Fields = some a_wreckageref04_Fields := by kernel_rfl
-- 58 wreckage/wreckageref06.Check
def a_wreckageref06_Check : AFunc := ⟨26, [.tmp 2],
 (.seq
 (.ops [⟨(some 1), .box 4 (.t 0), none, false⟩,
 ⟨(some 2), .mov (.c (.int .i64 (0))), none, false⟩])
 (.seq
 (.draw [⟨(some 4), .alloc [.int .i64 (0), .int .i64 (0), .int .i64 (0)], none, false⟩,
 ⟨(some 6), .faddr 0 (.t 1), none, false⟩,
 ⟨(some 7), .load false 1 (.t 6), none, false⟩,
 ⟨(some 8), .call (.c (.fn (.func F_wreckageref06_Shape) [] [])) [(.t 7)], none, false⟩,
 ⟨(some 9), .load true 4 (.t 1), none, true⟩,
 ⟨(some 10), .call (.c (.fn (.func F_wreckageref06_Operands) [] [])) [(.t 9)], none, false⟩,
 ⟨(some 3), .mov (.t 8), none, false⟩,
 ⟨none, .store 3 (.t 4) (.t 10), none, false⟩])
 (.seq
 (.seq
 (.ops [⟨(some 11), .mov (.t 3), none, false⟩,
 ⟨(some 12), .lenS (.t 11), none, false⟩,
 ⟨(some 13), .bin .neq (.t 12) (.c (.int .i64 (3))), none, false⟩])
 (.cond (.t 13)
 (.seq
 (.ops [⟨(some 2), .mov (.c (.int .i64 (8))), none, false⟩])
 .ret)
 .skip))
 (.seq
 (.seq
 (.ops [⟨(some 5), .mov (.c (.int .i64 (0))), none, false⟩])
 (.block 0
 (.loop [3, 4, 5]
 (.seq
 (.seq
 (.ops [⟨(some 14), .mov (.t 5), none, false⟩,
 ⟨(some 15), .bin .lss (.t 14) (.c (.int .i64 (3))), none, false⟩])
 (.cond (.t 15)
 .skip
 (.exit 0)))
 (.seq
 (.block 1
 (.seq
 (.draw [⟨(some 18), .mov (.t 3), none, false⟩,
 ⟨(some 19), .mov (.t 5), none, false⟩,
 ⟨(some 20), .indexS (.t 18) (.t 19), none, false⟩,
 ⟨(some 21), .mov (.t 5), none, false⟩,
 ⟨(some 22), .iaddrA 3 1 (.t 4) (.t 21), none, false⟩,
 ⟨(some 23), .load false 1 (.t 22), none, false⟩,
 ⟨(some 24), .call (.c (.fn (.func F_wreckageref06_Fits) [] [])) [(.t 20), (.t 23)], none, false⟩,
 ⟨(some 25), .un .not (.t 24), none, false⟩])
 (.cond (.t 25)
 (.seq
 (.ops [⟨(some 2), .mov (.c (.int .i64 (8))), none, false⟩])
 .ret)
 .skip)))
 (.ops [⟨(some 16), .mov (.t 5), none, false⟩,
 ⟨(some 17), .bin .add (.t 16) (.c (.int .i64 (1))), none, false⟩,
 ⟨(some 5), .mov (.t 17), none, false⟩]))))))
 (.seq
 (.ops [⟨(some 2), .mov (.c (.int .i64 (0))), none, false⟩])
 .ret)))))⟩
def n_wreckageref06_Check : List (List Nat) := [[3, 4, 5]]
theorem c_wreckageref06_Check : compFn Try.prog Try.f58 n_wreckageref06_Check = some a_wreckageref06_Check := by kernel_rfl
-- 59 wreckage/wreckageref06.Shape
def a_wreckageref06_Shape : AFunc := ⟨57, [.tmp 2],
 (.seq
 (.ops [⟨(some 2), .mov (.c (.str [])), none, false⟩])
 (.seq
 (.seq
 (.ops [⟨(some 3), .mov (.t 0), none, false⟩])
 (.block 0
 (.seq
 (.ops [⟨(some 5), .bin .eql (.t 3) (.c (.int .u8 (1))), none, false⟩,
 ⟨(some 4), .mov (.t 5), none, false⟩])
 (.cond (.t 4)
 (.seq
 (.ops [⟨(some 2), .mov (.c (.str [119, 110, 45])), none, false⟩])
 .ret)
 (.seq
 (.ops [⟨(some 7), .bin .eql (.t 3) (.c (.int .u8 (2))), none, false⟩,
 ⟨(some 6), .mov (.t 7), none, false⟩])
 (.cond (.t 6)
 (.seq
 (.ops [⟨(some 2), .mov (.c (.str [119, 116, 45])), none, false⟩])
 .ret)
 (.seq
 (.ops [⟨(some 9), .bin .eql (.t 3) (.c (.int .u8 (3))), none, false⟩,
 ⟨(some 8), .mov (.t 9), none, false⟩])
 (.cond (.t 8)
 (.seq
 (.ops [⟨(some 2), .mov (.c (.str [119, 98, 45])), none, false⟩])
 .ret)
 (.seq
 (.seq
 (.ops [⟨(some 11), .bin .eql (.t 3) (.c (.int .u8 (4))), none, false⟩,
 ⟨(some 10), .mov (.t 11), none, false⟩])
 (.cond (.t 10)
 .skip
 (.ops [⟨(some 12), .bin .eql (.t 3) (.c (.int .u8 (15))), none, false⟩,
 ⟨(some 10), .mov (.t 12), none, false⟩])))
 (.cond (.t 10)
 (.seq
 (.ops [⟨(some 2), .mov (.c (.str [119, 45, 45])), none, false⟩])
 .ret)
 (.seq
 (.seq
 (.ops [⟨(some 14), .bin .eql (.t 3) (.c (.int .u8 (5))), none, false⟩,
 ⟨(some 13), .mov (.t 14), none, false⟩])
 (.cond (.t 13)
 .skip
 (.seq
 (.ops [⟨(some 15), .bin .eql (.t 3) (.c (.int .u8 (12))), none, false⟩,
 ⟨(some 13), .mov (.t 15), none, false⟩])
 (.cond (.t 13)
 .skip
 (.seq
 (.ops [⟨(some 16), .bin .eql (.t 3) (.c (.int .u8 (16))), none, false⟩,
 ⟨(some 13), .mov (.t 16), none, false⟩])
 (.cond (.t 13)
 .skip
 (.seq
 (.ops [⟨(some 17), .bin .eql (.t 3) (.c (.int .u8 (18))), none, false⟩,
 ⟨(some 13), .mov (.t 17), none, false⟩])
 (.cond (.t 13)
 .skip
 (.ops [⟨(some 18), .bin .eql (.t 3) (.c (.int .u8 (21))), none, false⟩,
 ⟨(some 13), .mov (.t 18), none, false⟩])))))))))
 (.cond (.t 13)
 (.seq
 (.ops [⟨(some 2), .mov (.c (.str [119, 114, 45])), none, false⟩])
 .ret)
 (.seq
 (.seq
 (.ops [⟨(some 20), .bin .eql (.t 3) (.c (.int .u8 (6))), none, false⟩,
 ⟨(some 19), .mov (.t 20), none, false⟩])
 (.cond (.t 19)
 .skip
 (.seq
 (.ops [⟨(some 21), .bin .eql (.t 3) (.c (.int .u8 (7))), none, false⟩,
 ⟨(some 19), .mov (.t 21), none, false⟩])
 (.cond (.t 19)
 .skip
 (.seq
 (.ops [⟨(some 22), .bin .eql (.t 3) (.c (.int .u8 (8))), none, false⟩,
 ⟨(some 19), .mov (.t 22), none, false⟩])
 (.cond (.t 19)
 .skip
 (.seq
 (.ops [⟨(some 23), .bin .eql (.t 3) (.c (.int .u8 (9))), none, false⟩,
 ⟨(some 19), .mov (.t 23), none, false⟩])
 (.cond (.t 19)
 .skip
 (.seq
 (.ops [⟨(some 24), .bin .eql (.t 3) (.c (.int .u8 (10))), none, false⟩,
 ⟨(some 19), .mov (.t 24), none, false⟩])
 (.cond (.t 19)
 .skip
 (.seq
 (.ops [⟨(some 25), .bin .eql (.t 3) (.c (.int .u8 (11))), none, false⟩,
 ⟨(some 19), .mov (.t 25), none, false⟩])
 (.cond (.t 19)
 .skip
 (.ops [⟨(some 26), .bin .eql (.t 3) (.c (.int .u8 (19))), none, false⟩,
 ⟨(some 19), .mov (.t 26), none, false⟩])))))))))))))
 (.cond (.t 19)
 (.seq
 (.ops [⟨(some 2), .mov (.c (.str [119, 114, 114])), none, false⟩])
 .ret)
 (.seq
 (.ops [⟨(some 28), .bin .eql (.t 3) (.c (.int .u8 (13))), none, false⟩,
 ⟨(some 27), .mov (.t 28), none, false⟩])
 (.cond (.t 27)
 (.seq
 (.ops [⟨(some 2), .mov (.c (.str [119, 114, 102])), none, false⟩])
 .ret)
 (.seq
 (.ops [⟨(some 30), .bin .eql (.t 3) (.c (.int .u8 (14))), none, false⟩,
 ⟨(some 29), .mov (.t 30), none, false⟩])
 (.cond (.t 29)
 (.seq
 (.ops [⟨(some 2), .mov (.c (.str [114, 102, 114])), none, false⟩])
 .ret)
 (.seq
 (.ops [⟨(some 32), .bin .eql (.t 3) (.c (.int .u8 (17))), none, false⟩,
 ⟨(some 31), .mov (.t 32), none, false⟩])
 (.cond (.t 31)
 (.seq
 (.ops [⟨(some 2), .mov (.c (.str [114, 114, 45])), none, false⟩])
 .ret)
 (.seq
 (.ops [⟨(some 34), .bin .eql (.t 3) (.c (.int .u8 (20))), none, false⟩,
 ⟨(some 33), .mov (.t 34), none, false⟩])
 (.cond (.t 33)
 (.seq
 (.ops [⟨(some 2), .mov (.c (.str [114, 114, 114])), none, false⟩])
 .ret)
 (.seq
 (.ops [⟨(some 36), .bin .eql (.t 3) (.c (.int .u8 (22))), none, false⟩,
 ⟨(some 35), .mov (.t 36), none, false⟩])
 (.cond (.t 35)
 (.seq
 (.ops [⟨(some 2), .mov (.c (.str [105, 45, 45])), none, false⟩])
 .ret)
 (.seq
 (.ops [⟨(some 38), .bin .eql (.t 3) (.c (.int .u8 (23))), none, false⟩,
 ⟨(some 37), .mov (.t 38), none, false⟩])
 (.cond (.t 37)
 (.seq
 (.ops [⟨(some 2), .mov (.c (.str [114, 105, 45])), none, false⟩])
 .ret)
 (.seq
 (.seq
 (.ops [⟨(some 40), .bin .eql (.t 3) (.c (.int .u8 (24))), none, false⟩,
 ⟨(some 39), .mov (.t 40), none, false⟩])
 (.cond (.t 39)
 .skip
 (.seq
 (.ops [⟨(some 41), .bin .eql (.t 3) (.c (.int .u8 (28))), none, false⟩,
 ⟨(some 39), .mov (.t 41), none, false⟩])
 (.cond (.t 39)
 .skip
 (.ops [⟨(some 42), .bin .eql (.t 3) (.c (.int .u8 (32))), none, false⟩,
 ⟨(some 39), .mov (.t 42), none, false⟩])))))
 (.cond (.t 39)
 (.seq
 (.ops [⟨(some 2), .mov (.c (.str [114, 45, 45])), none, false⟩])
 .ret)
 (.seq
 (.ops [⟨(some 44), .bin .eql (.t 3) (.c (.int .u8 (25))), none, false⟩,
 ⟨(some 43), .mov (.t 44), none, false⟩])
 (.cond (.t 43)
 (.seq
 (.ops [⟨(some 2), .mov (.c (.str [103, 99, 45])), none, false⟩])
 .ret)
 (.seq
 (.seq
 (.ops [⟨(some 46), .bin .eql (.t 3) (.c (.int .u8 (26))), none, false⟩,
 ⟨(some 45), .mov (.t 46), none, false⟩])
 (.cond (.t 45)
 .skip
 (.ops [⟨(some 47), .bin .eql (.t 3) (.c (.int .u8 (27))), none, false⟩,
 ⟨(some 45), .mov (.t 47), none, false⟩])))
 (.cond (.t 45)
 (.seq
 (.ops [⟨(some 2), .mov (.c (.str [99, 45, 45])), none, false⟩])
 .ret)
 (.seq
 (.ops [⟨(some 49), .bin .eql (.t 3) (.c (.int .u8 (29))), none, false⟩,
 ⟨(some 48), .mov (.t 49), none, false⟩])
 (.cond (.t 48)
 (.seq
 (.ops [⟨(some 2), .mov (.c (.str [119, 119, 45])), none, false⟩])
 .ret)
 (.seq
 (.seq
 (.ops [⟨(some 51), .bin .eql (.t 3) (.c (.int .u8 (30))), none, false⟩,
 ⟨(some 50), .mov (.t 51), none, false⟩])
 (.cond (.t 50)
 .skip
 (.ops [⟨(some 52), .bin .eql (.t 3) (.c (.int .u8 (31))), none, false⟩,
 ⟨(some 50), .mov (.t 52), none, false⟩])))
 (.cond (.t 50)
 (.seq
 (.ops [⟨(some 2), .mov (.c (.str [45, 45, 45])), none, false⟩])
 .ret)
 (.seq
 (.ops [⟨(some 54), .bin .eql (.t 3) (.c (.int .u8 (33))), none, false⟩,
 ⟨(some 53), .mov (.t 54), none, false⟩])
 (.cond (.t 53)
 (.seq
 (.ops [⟨(some 2), .mov (.c (.str [119, 114, 45])), none, false⟩])
 .ret)
 (.seq
 (.ops [⟨(some 56), .bin .eql (.t 3) (.c (.int .u8 (34))), none, false⟩,
 ⟨(some 55), .mov (.t 56), none, false⟩])
 (.cond (.t 55)
 (.seq
 (.ops [⟨(some 2), .mov (.c (.str [101, 45, 45])), none, false⟩])
 .ret)
 .skip))))))))))))))))))))))))))))))))))))))))
 (.seq
 (.ops [⟨(some 2), .mov (.c (.str [])), none, false⟩])
 .ret)))⟩
def n_wreckageref06_Shape : List (List Nat) := []
theorem c_wreckageref06_Shape : compFn Try.prog Try.f59 n_wreckageref06_Shape = some a_wreckageref06_Shape := by kernel_rfl
-- 60 wreckage/wreckageref06.Operands
def a_wreckageref06_Operands : AFunc := ⟨10, [.cell 2 true 3],
 (.seq
 (.ops [⟨(some 1), .box 4 (.t 0), none, false⟩,
 ⟨(some 2), .alloc [.int .i64 (0), .int .i64 (0), .int .i64 (0)], none, false⟩])
 (.seq
 (.ops [⟨(some 3), .faddr 1 (.t 1), none, false⟩,
 ⟨(some 4), .load false 1 (.t 3), none, false⟩,
 ⟨(some 5), .faddr 2 (.t 1), none, false⟩,
 ⟨(some 6), .load false 1 (.t 5), none, false⟩,
 ⟨(some 7), .faddr 3 (.t 1), none, false⟩,
 ⟨(some 8), .load false 1 (.t 7), none, false⟩,
 ⟨(some 9), .build [.int .i64 (0), .int .i64 (0), .int .i64 (0)] [(0, 1, (.t 4)), (1, 1, (.t 6)), (2, 1, (.t 8))], none, false⟩,
 ⟨none, .store 3 (.t 2) (.t 9), none, false⟩])
 .ret))⟩
def n_wreckageref06_Operands : List (List Nat) := []
theorem c_wreckageref06_Operands : compFn Try.prog Try.f60 n_wreckageref06_Operands = some a_wreckageref06_Operands := by kernel_rfl
-- 61 wreckage/wreckageref06.Signed
def a_wreckageref06_Signed : AFunc := ⟨13, [.tmp 2],
 (.seq
 (.ops [⟨(some 2), .mov (.c (.bool false)), none, false⟩])
 (.seq
 (.ops [⟨(some 3), .mov (.t 0), none, false⟩,
 ⟨(some 4), .bin .eql (.t 3) (.c (.int .u8 (110))), none, false⟩,
 ⟨(some 5), .mov (.t 4), none, false⟩,
 ⟨(some 6), .mov (.t 0), (some (5, false)), false⟩,
 ⟨(some 7), .bin .eql (.t 6) (.c (.int .u8 (103))), (some (5, false)), false⟩,
 ⟨(some 8), .pick (.t 5) (.c (.bool true)) (.t 7), none, false⟩,
 ⟨(some 9), .mov (.t 8), none, false⟩,
 ⟨(some 10), .mov (.t 0), (some (9, false)), false⟩,
 ⟨(some 11), .bin .eql (.t 10) (.c (.int .u8 (101))), (some (9, false)), false⟩,
 ⟨(some 12), .pick (.t 9) (.c (.bool true)) (.t 11), none, false⟩,
 ⟨(some 2), .mov (.t 12), none, false⟩])
 .ret))⟩
def n_wreckageref06_Signed : List (List Nat) := []
theorem c_wreckageref06_Signed : compFn Try.prog Try.f61 n_wreckageref06_Signed = some a_wreckageref06_Signed := by kernel_rfl
-- 62 wreckage/kinds.fine
def a_kinds_fine : AFunc := ⟨118, [.tmp 4],
 (.seq
 (.ops [⟨(some 4), .mov (.c (.bool false)), none, false⟩])
 (.seq
 (.ops [⟨(some 10), .mov (.t 0), none, false⟩,
 ⟨(some 11), .mov (.t 1), none, false⟩,
 ⟨(some 12), .iaddr 4 (.t 10) (.t 11), none, false⟩,
 ⟨(some 13), .load true 4 (.t 12), none, false⟩,
 ⟨(some 5), .alloc [.int .u8 (0), .int .i64 (0), .int .i64 (0), .nils], none, false⟩,
 ⟨none, .store 4 (.t 5) (.t 13), none, false⟩])
 (.seq
 (.ops [⟨(some 6), .mov (.c (.fn (.func F_kinds_fine_1) [] [])), none, false⟩])
 (.seq
 (.seq
 (.ops [⟨(some 14), .faddr 0 (.t 5), none, false⟩,
 ⟨(some 15), .load false 1 (.t 14), none, false⟩])
 (.block 0
 (.seq
 (.seq
 (.ops [⟨(some 17), .bin .eql (.t 15) (.c (.int .u8 (1))), none, false⟩,
 ⟨(some 16), .mov (.t 17), none, false⟩])
 (.cond (.t 16)
 .skip
 (.seq
 (.ops [⟨(some 18), .bin .eql (.t 15) (.c (.int .u8 (2))), none, false⟩,
 ⟨(some 16), .mov (.t 18), none, false⟩])
 (.cond (.t 16)
 .skip
 (.ops [⟨(some 19), .bin .eql (.t 15) (.c (.int .u8 (3))), none, false⟩,
 ⟨(some 16), .mov (.t 19), none, false⟩])))))
 (.cond (.t 16)
 (.seq
 (.ops [⟨(some 20), .faddr 1 (.t 5), none, false⟩,
 ⟨(some 21), .load false 1 (.t 20), none, false⟩,
 ⟨(some 22), .faddr 2 (.t 5), none, false⟩,
 ⟨(some 23), .load false 1 (.t 22), none, false⟩,
 ⟨(some 24), .faddr 3 (.t 5), none, false⟩,
 ⟨(some 25), .load false 1 (.t 24), none, false⟩,
 ⟨(some 26), .len (.t 25), none, false⟩,
 ⟨(some 27), .lit 1 [(.t 21), (.t 23), (.t 26)], none, false⟩,
 ⟨(some 28), .call (.c (.fn (.func F_kinds_zero) [] [])) [(.t 27)], none, false⟩,
 ⟨(some 4), .mov (.t 28), none, false⟩])
 .ret)
 (.seq
 (.seq
 (.ops [⟨(some 30), .bin .eql (.t 15) (.c (.int .u8 (4))), none, false⟩,
 ⟨(some 29), .mov (.t 30), none, false⟩])
 (.cond (.t 29)
 .skip
 (.ops [⟨(some 31), .bin .eql (.t 15) (.c (.int .u8 (7))), none, false⟩,
 ⟨(some 29), .mov (.t 31), none, false⟩])))
 (.cond (.t 29)
 (.seq
 (.ops [⟨(some 32), .mov (.t 6), none, false⟩,
 ⟨(some 33), .faddr 1 (.t 5), none, false⟩,
 ⟨(some 34), .load false 1 (.t 33), none, false⟩,
 ⟨(some 35), .mov (.t 0), none, false⟩,
 ⟨(some 36), .len (.t 35), none, false⟩,
 ⟨(some 37), .call (.t 32) [(.t 34), (.t 36)], none, false⟩,
 ⟨(some 38), .mov (.t 37), none, false⟩,
 ⟨(some 39), .faddr 2 (.t 5), (some (38, true)), false⟩,
 ⟨(some 40), .load false 1 (.t 39), (some (38, true)), false⟩,
 ⟨(some 41), .faddr 3 (.t 5), (some (38, true)), false⟩,
 ⟨(some 42), .load false 1 (.t 41), (some (38, true)), false⟩,
 ⟨(some 43), .len (.t 42), (some (38, true)), false⟩,
 ⟨(some 44), .lit 1 [(.t 40), (.t 43)], (some (38, true)), false⟩,
 ⟨(some 45), .call (.c (.fn (.func F_kinds_zero) [] [])) [(.t 44)], (some (38, true)), false⟩,
 ⟨(some 46), .pick (.t 38) (.t 45) (.c (.bool false)), none, false⟩,
 ⟨(some 4), .mov (.t 46), none, false⟩])
 .ret)
 (.seq
 (.ops [⟨(some 48), .bin .eql (.t 15) (.c (.int .u8 (6))), none, false⟩,
 ⟨(some 47), .mov (.t 48), none, false⟩])
 (.cond (.t 47)
 (.seq
 (.ops [⟨(some 49), .mov (.t 6), none, false⟩,
 ⟨(some 50), .faddr 1 (.t 5), none, false⟩,
 ⟨(some 51), .load false 1 (.t 50), none, false⟩,
 ⟨(some 52), .mov (.t 1), none, false⟩,
 ⟨(some 53), .call (.t 49) [(.t 51), (.t 52)], none, false⟩,
 ⟨(some 54), .mov (.t 53), none, false⟩,
 ⟨(some 55), .mov (.t 6), (some (54, true)), false⟩,
 ⟨(some 56), .faddr 2 (.t 5), (some (54, true)), false⟩,
 ⟨(some 57), .load false 1 (.t 56), (some (54, true)), false⟩,
 ⟨(some 58), .bin .sub (.t 57) (.c (.int .i64 (1))), (some (54, true)), false⟩,
 ⟨(some 59), .call (.t 55) [(.t 58), (.c (.int .i64 (16)))], (some (54, true)), false⟩,
 ⟨(some 60), .pick (.t 54) (.t 59) (.c (.bool false)), none, false⟩,
 ⟨(some 61), .mov (.t 60), none, false⟩,
 ⟨(some 62), .faddr 3 (.t 5), (some (61, true)), false⟩,
 ⟨(some 63), .load false 1 (.t 62), (some (61, true)), false⟩,
 ⟨(some 64), .len (.t 63), (some (61, true)), false⟩,
 ⟨(some 65), .lit 1 [(.t 64)], (some (61, true)), false⟩,
 ⟨(some 66), .call (.c (.fn (.func F_kinds_zero) [] [])) [(.t 65)], (some (61, true)), false⟩,
 ⟨(some 67), .pick (.t 61) (.t 66) (.c (.bool false)), none, false⟩,
 ⟨(some 4), .mov (.t 67), none, false⟩])
 .ret)
 (.seq
 (.ops [⟨(some 69), .bin .eql (.t 15) (.c (.int .u8 (5))), none, false⟩,
 ⟨(some 68), .mov (.t 69), none, false⟩])
 (.cond (.t 68)
 (.seq
 (.ops [⟨(some 70), .ext .mkmap, none, false⟩,
 ⟨(some 7), .mov (.t 70), none, false⟩])
 (.seq
 (.seq
 (.ops [⟨(some 71), .faddr 3 (.t 5), none, false⟩,
 ⟨(some 72), .load false 1 (.t 71), none, false⟩,
 ⟨(some 73), .len (.t 72), none, false⟩,
 ⟨(some 74), .mov (.c (.int .i64 (0))), none, false⟩])
 (.block 1
 (.loop [1, 5, 6, 7, 72, 73, 74]
 (.seq
 (.ops [⟨(some 75), .bin .lss (.t 74) (.t 73), none, false⟩])
 (.seq
 (.cond (.t 75)
 .skip
 (.exit 1))
 (.seq
 (.block 2
 (.seq
 (.ops [⟨(some 76), .iaddr 2 (.t 72) (.t 74), none, false⟩,
 ⟨(some 77), .load true 2 (.t 76), none, false⟩,
 ⟨(some 9), .alloc [.str [], .int .i64 (0)], none, false⟩,
 ⟨none, .store 2 (.t 9) (.t 77), none, false⟩])
 (.seq
 (.seq
 (.ops [⟨(some 78), .faddr 0 (.t 9), none, false⟩,
 ⟨(some 79), .load false 1 (.t 78), none, false⟩,
 ⟨(some 80), .call (.c (.fn (.func F_kinds_Named) [] [])) [(.t 79)], none, false⟩,
 ⟨(some 81), .un .not (.t 80), none, false⟩,
 ⟨(some 82), .mov (.t 81), none, false⟩,
 ⟨(some 83), .mov (.t 7), (some (82, false)), false⟩,
 ⟨(some 84), .faddr 0 (.t 9), (some (82, false)), false⟩,
 ⟨(some 85), .load false 1 (.t 84), (some (82, false)), false⟩,
 ⟨(some 86), .ext (.mget true (.bool false) (.t 83) (.t 85)), (some (82, false)), false⟩,
 ⟨(some 87), .pick (.t 82) (.c (.bool true)) (.t 86), none, false⟩,
 ⟨(some 88), .mov (.t 87), none, false⟩,
 ⟨(some 89), .mov (.t 6), (some (88, false)), false⟩,
 ⟨(some 90), .faddr 1 (.t 9), (some (88, false)), false⟩,
 ⟨(some 91), .load false 1 (.t 90), (some (88, false)), false⟩,
 ⟨(some 92), .mov (.t 1), (some (88, false)), false⟩,
 ⟨(some 93), .call (.t 89) [(.t 91), (.t 92)], (some (88, false)), false⟩,
 ⟨(some 94), .un .not (.t 93), (some (88, false)), false⟩,
 ⟨(some 95), .pick (.t 88) (.c (.bool true)) (.t 94), none, false⟩])
 (.cond (.t 95)
 (.seq
 (.ops [⟨(some 4), .mov (.c (.bool false)), none, false⟩])
 .ret)
 .skip))
 (.ops [⟨(some 96), .mov (.t 7), none, false⟩,
 ⟨(some 97), .faddr 0 (.t 9), none, false⟩,
 ⟨(some 98), .load false 1 (.t 97), none, false⟩,
 ⟨none, .ext (.mput true (.t 96) (.t 98) (.c (.bool true))), none, false⟩]))))
 (.ops [⟨(some 99), .bin .add (.t 74) (.c (.int .i64 (1))), none, false⟩,
 ⟨(some 74), .mov (.t 99), none, false⟩])))))))
 (.seq
 (.ops [⟨(some 100), .faddr 1 (.t 5), none, false⟩,
 ⟨(some 101), .load false 1 (.t 100), none, false⟩,
 ⟨(some 102), .faddr 2 (.t 5), none, false⟩,
 ⟨(some 103), .load false 1 (.t 102), none, false⟩,
 ⟨(some 104), .lit 1 [(.t 101), (.t 103)], none, false⟩,
 ⟨(some 105), .call (.c (.fn (.func F_kinds_zero) [] [])) [(.t 104)], none, false⟩,
 ⟨(some 106), .mov (.t 105), none, false⟩,
 ⟨(some 107), .faddr 3 (.t 5), (some (106, true)), false⟩,
 ⟨(some 108), .load false 1 (.t 107), (some (106, true)), false⟩,
 ⟨(some 109), .len (.t 108), (some (106, true)), false⟩,
 ⟨(some 110), .bin .gtr (.t 109) (.c (.int .i64 (0))), (some (106, true)), false⟩,
 ⟨(some 111), .pick (.t 106) (.t 110) (.c (.bool false)), none, false⟩,
 ⟨(some 112), .mov (.t 111), none, false⟩,
 ⟨(some 113), .faddr 3 (.t 5), (some (112, true)), false⟩,
 ⟨(some 114), .load false 1 (.t 113), (some (112, true)), false⟩,
 ⟨(some 115), .len (.t 114), (some (112, true)), false⟩,
 ⟨(some 116), .bin .leq (.t 115) (.c (.int .i64 (8))), (some (112, true)), false⟩,
 ⟨(some 117), .pick (.t 112) (.t 116) (.c (.bool false)), none, false⟩,
 ⟨(some 4), .mov (.t 117), none, false⟩])
 .ret)))
 .skip))))))))))
 (.seq
 (.ops [⟨(some 4), .mov (.c (.bool false)), none, false⟩])
 .ret)))))⟩
def n_kinds_fine : List (List Nat) := [[1, 5, 6, 7, 72, 73, 74]]
theorem c_kinds_fine : compFn Try.prog Try.f62 n_kinds_fine = some a_kinds_fine := by kernel_rfl
-- 63 wreckage/kinds.widths
def a_kinds_widths : AFunc := ⟨82, [.tmp 2],
 (.seq
 (.ops [⟨(some 2), .mov (.c (.nils)), none, false⟩])
 (.seq
 (.ops [⟨(some 10), .mov (.t 0), none, false⟩,
 ⟨(some 11), .len (.t 10), none, false⟩,
 ⟨(some 12), .make 1 8 [.int .i64 (0)] (.t 11) (.t 11), none, false⟩,
 ⟨(some 3), .mov (.t 12), none, false⟩])
 (.seq
 (.seq
 (.ops [⟨(some 13), .mov (.c (.int .i64 (0))), none, false⟩])
 (.block 0
 (.loop [0, 3, 13, 999999]
 (.seq
 (.ops [⟨(some 14), .bin .lss (.t 13) (.c (.int .i64 (4))), none, false⟩])
 (.seq
 (.cond (.t 14)
 .skip
 (.exit 0))
 (.seq
 (.block 1
 (.seq
 (.ops [⟨(some 15), .mov (.t 0), none, false⟩,
 ⟨(some 16), .len (.t 15), none, false⟩,
 ⟨(some 17), .make 1 8 [.int .i64 (0)] (.t 16) (.t 16), none, false⟩,
 ⟨(some 4), .mov (.t 17), none, false⟩])
 (.seq
 (.seq
 (.ops [⟨(some 18), .mov (.t 0), none, false⟩,
 ⟨(some 19), .len (.t 18), none, false⟩,
 ⟨(some 20), .mov (.c (.int .i64 (0))), none, false⟩])
 (.block 2
 (.loop [0, 3, 4, 13, 18, 19, 20]
 (.seq
 (.ops [⟨(some 21), .bin .lss (.t 20) (.t 19), none, false⟩])
 (.seq
 (.cond (.t 21)
 .skip
 (.exit 2))
 (.seq
 (.block 3
 (.seq
 (.ops [⟨(some 22), .mov (.t 20), none, false⟩,
 ⟨(some 23), .iaddr 4 (.t 18) (.t 20), none, false⟩,
 ⟨(some 24), .load true 4 (.t 23), none, false⟩,
 ⟨(some 6), .alloc [.int .u8 (0), .int .i64 (0), .int .i64 (0), .nils], none, false⟩,
 ⟨(some 5), .mov (.t 22), none, false⟩,
 ⟨none, .store 4 (.t 6) (.t 24), none, false⟩])
 (.seq
 (.ops [⟨(some 7), .mov (.c (.int .i64 (1))), none, false⟩])
 (.seq
 (.seq
 (.ops [⟨(some 25), .faddr 0 (.t 6), none, false⟩,
 ⟨(some 26), .load false 1 (.t 25), none, false⟩])
 (.block 4
 (.seq
 (.ops [⟨(some 28), .bin .eql (.t 26) (.c (.int .u8 (4))), none, false⟩,
 ⟨(some 27), .mov (.t 28), none, false⟩])
 (.cond (.t 27)
 (.ops [⟨(some 29), .mov (.t 7), none, false⟩,
 ⟨(some 30), .mov (.t 3), none, false⟩,
 ⟨(some 31), .faddr 1 (.t 6), none, false⟩,
 ⟨(some 32), .load false 1 (.t 31), none, false⟩,
 ⟨(some 33), .iaddr 1 (.t 30) (.t 32), none, false⟩,
 ⟨(some 34), .load false 1 (.t 33), none, false⟩,
 ⟨(some 35), .bin .add (.t 29) (.t 34), none, false⟩,
 ⟨(some 7), .mov (.t 35), none, false⟩])
 (.seq
 (.ops [⟨(some 37), .bin .eql (.t 26) (.c (.int .u8 (7))), none, false⟩,
 ⟨(some 36), .mov (.t 37), none, false⟩])
 (.cond (.t 36)
 (.ops [⟨(some 38), .mov (.t 7), none, false⟩,
 ⟨(some 39), .mov (.t 3), none, false⟩,
 ⟨(some 40), .faddr 1 (.t 6), none, false⟩,
 ⟨(some 41), .load false 1 (.t 40), none, false⟩,
 ⟨(some 42), .iaddr 1 (.t 39) (.t 41), none, false⟩,
 ⟨(some 43), .load false 1 (.t 42), none, false⟩,
 ⟨(some 44), .bin .mul (.c (.int .i64 (16))) (.t 43), none, false⟩,
 ⟨(some 45), .bin .add (.t 38) (.t 44), none, false⟩,
 ⟨(some 7), .mov (.t 45), none, false⟩])
 (.seq
 (.ops [⟨(some 47), .bin .eql (.t 26) (.c (.int .u8 (6))), none, false⟩,
 ⟨(some 46), .mov (.t 47), none, false⟩])
 (.cond (.t 46)
 (.draw [⟨(some 48), .mov (.t 7), none, false⟩,
 ⟨(some 49), .faddr 2 (.t 6), none, false⟩,
 ⟨(some 50), .load false 1 (.t 49), none, false⟩,
 ⟨(some 51), .mov (.t 4), none, false⟩,
 ⟨(some 52), .faddr 1 (.t 6), none, false⟩,
 ⟨(some 53), .load false 1 (.t 52), none, false⟩,
 ⟨(some 54), .iaddr 1 (.t 51) (.t 53), none, false⟩,
 ⟨(some 55), .load false 1 (.t 54), none, false⟩,
 ⟨(some 56), .bin .mul (.t 50) (.t 55), none, false⟩,
 ⟨(some 57), .bin .add (.t 48) (.t 56), none, false⟩,
 ⟨(some 7), .mov (.t 57), none, false⟩])
 .skip))))))))
 (.seq
 (.seq
 (.ops [⟨(some 58), .faddr 3 (.t 6), none, false⟩,
 ⟨(some 59), .load false 1 (.t 58), none, false⟩,
 ⟨(some 60), .len (.t 59), none, false⟩,
 ⟨(some 61), .mov (.c (.int .i64 (0))), none, false⟩])
 (.block 5
 (.loop [0, 3, 4, 5, 7, 13, 18, 19, 20, 59, 60, 61]
 (.seq
 (.ops [⟨(some 62), .bin .lss (.t 61) (.t 60), none, false⟩])
 (.seq
 (.cond (.t 62)
 .skip
 (.exit 5))
 (.seq
 (.block 6
 (.seq
 (.ops [⟨(some 63), .iaddr 2 (.t 59) (.t 61), none, false⟩,
 ⟨(some 64), .load true 2 (.t 63), none, false⟩,
 ⟨(some 9), .alloc [.str [], .int .i64 (0)], none, false⟩,
 ⟨none, .store 2 (.t 9) (.t 64), none, false⟩])
 (.ops [⟨(some 65), .mov (.t 7), none, false⟩,
 ⟨(some 66), .mov (.t 4), none, false⟩,
 ⟨(some 67), .faddr 1 (.t 9), none, false⟩,
 ⟨(some 68), .load false 1 (.t 67), none, false⟩,
 ⟨(some 69), .iaddr 1 (.t 66) (.t 68), none, false⟩,
 ⟨(some 70), .load false 1 (.t 69), none, false⟩,
 ⟨(some 71), .bin .add (.t 65) (.t 70), none, false⟩,
 ⟨(some 7), .mov (.t 71), none, false⟩])))
 (.ops [⟨(some 72), .bin .add (.t 61) (.c (.int .i64 (1))), none, false⟩,
 ⟨(some 61), .mov (.t 72), none, false⟩])))))))
 (.ops [⟨(some 73), .mov (.t 4), none, false⟩,
 ⟨(some 74), .mov (.t 5), none, false⟩,
 ⟨(some 75), .mov (.t 7), none, false⟩,
 ⟨(some 76), .mn (.t 75) (.c (.int .i64 (5001))), none, false⟩,
 ⟨(some 77), .iaddr 1 (.t 73) (.t 74), none, false⟩,
 ⟨none, .store 1 (.t 77) (.t 76), none, false⟩]))))))
 (.ops [⟨(some 78), .bin .add (.t 20) (.c (.int .i64 (1))), none, false⟩,
 ⟨(some 20), .mov (.t 78), none, false⟩])))))))
 (.ops [⟨(some 79), .mov (.t 4), none, false⟩,
 ⟨(some 3), .mov (.t 79), none, false⟩]))))
 (.ops [⟨(some 80), .bin .add (.t 13) (.c (.int .i64 (1))), none, false⟩,
 ⟨(some 13), .mov (.t 80), none, false⟩])))))))
 (.seq
 (.ops [⟨(some 81), .mov (.t 3), none, false⟩,
 ⟨(some 2), .mov (.t 81), none, false⟩])
 .ret))))⟩
def n_kinds_widths : List (List Nat) := [[0, 3, 13, 999999], [0, 3, 4, 13, 18, 19, 20], [0, 3, 4, 5, 7, 13, 18, 19, 20, 59, 60, 61]]
theorem c_kinds_widths : compFn Try.prog Try.f63 n_kinds_widths = some a_kinds_widths := by kernel_rfl
-- 64 wreckage/layout.asked
def a_layout_asked : AFunc := ⟨30, [.tmp 4, .tmp 5],
 (.seq
 (.ops [⟨(some 4), .mov (.c (.nils)), none, false⟩,
 ⟨(some 5), .mov (.c (.int .i64 (0))), none, false⟩])
 (.seq
 (.seq
 (.ops [⟨(some 8), .mov (.t 0), none, false⟩,
 ⟨(some 9), .call (.c (.fn (.func F_kinds_Check) [] [])) [(.t 8)], none, false⟩,
 ⟨(some 6), .mov (.t 9), none, false⟩])
 (.seq
 (.ops [⟨(some 10), .mov (.t 6), none, false⟩,
 ⟨(some 11), .bin .neq (.t 10) (.c (.int .i64 (0))), none, false⟩])
 (.cond (.t 11)
 (.seq
 (.ops [⟨(some 12), .mov (.t 6), none, false⟩,
 ⟨(some 4), .mov (.c (.nils)), none, false⟩,
 ⟨(some 5), .mov (.t 12), none, false⟩])
 .ret)
 .skip)))
 (.seq
 (.seq
 (.ops [⟨(some 13), .mov (.t 1), none, false⟩,
 ⟨(some 14), .bin .lss (.t 13) (.c (.int .i64 (0))), none, false⟩,
 ⟨(some 15), .mov (.t 14), none, false⟩,
 ⟨(some 16), .mov (.t 1), (some (15, false)), false⟩,
 ⟨(some 17), .mov (.t 0), (some (15, false)), false⟩,
 ⟨(some 18), .len (.t 17), (some (15, false)), false⟩,
 ⟨(some 19), .bin .geq (.t 16) (.t 18), (some (15, false)), false⟩,
 ⟨(some 20), .pick (.t 15) (.c (.bool true)) (.t 19), none, false⟩])
 (.cond (.t 20)
 (.seq
 (.ops [⟨(some 4), .mov (.c (.nils)), none, false⟩,
 ⟨(some 5), .mov (.c (.int .i64 (2))), none, false⟩])
 .ret)
 .skip))
 (.seq
 (.ops [⟨(some 21), .mov (.t 0), none, false⟩,
 ⟨(some 22), .call (.c (.fn (.func F_layout_extents) [] [])) [(.t 21)], none, false⟩,
 ⟨(some 7), .mov (.t 22), none, false⟩])
 (.seq
 (.seq
 (.ops [⟨(some 23), .mov (.t 7), none, false⟩,
 ⟨(some 24), .mov (.t 1), none, false⟩,
 ⟨(some 25), .iaddr 2 (.t 23) (.t 24), none, false⟩,
 ⟨(some 26), .faddr 0 (.t 25), none, false⟩,
 ⟨(some 27), .load false 1 (.t 26), none, false⟩,
 ⟨(some 28), .bin .gtr (.t 27) (.c (.int .i64 (256))), none, false⟩])
 (.cond (.t 28)
 (.seq
 (.ops [⟨(some 4), .mov (.c (.nils)), none, false⟩,
 ⟨(some 5), .mov (.c (.int .i64 (16))), none, false⟩])
 .ret)
 .skip))
 (.seq
 (.ops [⟨(some 29), .mov (.t 7), none, false⟩,
 ⟨(some 4), .mov (.t 29), none, false⟩,
 ⟨(some 5), .mov (.c (.int .i64 (0))), none, false⟩])
 .ret))))))⟩
def n_layout_asked : List (List Nat) := []
theorem c_layout_asked : compFn Try.prog Try.f64 n_layout_asked = some a_layout_asked := by kernel_rfl
-- 65 wreckage/kinds.Named
def a_kinds_Named : AFunc := ⟨47, [.tmp 2],
 (.seq
 (.ops [⟨(some 2), .mov (.c (.bool false)), none, false⟩])
 (.seq
 (.seq
 (.ops [⟨(some 5), .mov (.t 0), none, false⟩,
 ⟨(some 6), .lenS (.t 5), none, false⟩,
 ⟨(some 7), .bin .eql (.t 6) (.c (.int .i64 (0))), none, false⟩,
 ⟨(some 8), .mov (.t 7), none, false⟩,
 ⟨(some 9), .mov (.t 0), (some (8, false)), false⟩,
 ⟨(some 10), .lenS (.t 9), (some (8, false)), false⟩,
 ⟨(some 11), .bin .gtr (.t 10) (.c (.int .i64 (16))), (some (8, false)), false⟩,
 ⟨(some 12), .pick (.t 8) (.c (.bool true)) (.t 11), none, false⟩,
 ⟨(some 13), .mov (.t 12), none, false⟩,
 ⟨(some 14), .mov (.t 0), (some (13, false)), false⟩,
 ⟨(some 15), .indexS (.t 14) (.c (.int .i64 (0))), (some (13, false)), false⟩,
 ⟨(some 16), .bin .leq (.t 15) (.c (.int .u8 (57))), (some (13, false)), false⟩,
 ⟨(some 17), .pick (.t 13) (.c (.bool true)) (.t 16), none, false⟩])
 (.cond (.t 17)
 (.seq
 (.ops [⟨(some 2), .mov (.c (.bool false)), none, false⟩])
 .ret)
 .skip))
 (.seq
 (.seq
 (.ops [⟨(some 18), .mov (.t 0), none, false⟩,
 ⟨(some 19), .toBytes (.t 18), none, false⟩,
 ⟨(some 20), .len (.t 19), none, false⟩,
 ⟨(some 21), .mov (.c (.int .i64 (0))), none, false⟩])
 (.block 0
 (.loop [19, 20, 21]
 (.seq
 (.ops [⟨(some 22), .bin .lss (.t 21) (.t 20), none, false⟩])
 (.seq
 (.cond (.t 22)
 .skip
 (.exit 0))
 (.seq
 (.block 1
 (.seq
 (.ops [⟨(some 23), .iaddr 1 (.t 19) (.t 21), none, false⟩,
 ⟨(some 24), .load false 1 (.t 23), none, false⟩,
 ⟨(some 4), .mov (.t 24), none, false⟩])
 (.seq
 (.ops [⟨(some 25), .mov (.t 4), none, false⟩,
 ⟨(some 26), .bin .or (.t 25) (.c (.int .u8 (32))), none, false⟩,
 ⟨(some 27), .bin .lss (.t 26) (.c (.int .u8 (97))), none, false⟩,
 ⟨(some 28), .mov (.t 27), none, false⟩,
 ⟨(some 29), .mov (.t 4), (some (28, false)), false⟩,
 ⟨(some 30), .bin .or (.t 29) (.c (.int .u8 (32))), (some (28, false)), false⟩,
 ⟨(some 31), .bin .gtr (.t 30) (.c (.int .u8 (122))), (some (28, false)), false⟩,
 ⟨(some 32), .pick (.t 28) (.c (.bool true)) (.t 31), none, false⟩,
 ⟨(some 33), .mov (.t 32), none, false⟩,
 ⟨(some 34), .mov (.t 4), (some (33, false)), false⟩,
 ⟨(some 35), .bin .and (.t 34) (.c (.int .u8 (64))), (some (33, false)), false⟩,
 ⟨(some 36), .bin .eql (.t 35) (.c (.int .u8 (0))), (some (33, false)), false⟩,
 ⟨(some 37), .pick (.t 33) (.c (.bool true)) (.t 36), none, false⟩,
 ⟨(some 38), .mov (.t 37), none, false⟩,
 ⟨(some 39), .mov (.t 4), (some (38, true)), false⟩,
 ⟨(some 40), .bin .lss (.t 39) (.c (.int .u8 (48))), (some (38, true)), false⟩,
 ⟨(some 41), .mov (.t 40), (some (38, true)), false⟩,
 ⟨(some 42), .mov (.t 4), (some (41, false)), false⟩,
 ⟨(some 43), .bin .gtr (.t 42) (.c (.int .u8 (57))), (some (41, false)), false⟩,
 ⟨(some 44), .pick (.t 41) (.c (.bool true)) (.t 43), (some (38, true)), false⟩,
 ⟨(some 45), .pick (.t 38) (.t 44) (.c (.bool false)), none, false⟩])
 (.cond (.t 45)
 (.seq
 (.ops [⟨(some 2), .mov (.c (.bool false)), none, false⟩])
 .ret)
 .skip))))
 (.ops [⟨(some 46), .bin .add (.t 21) (.c (.int .i64 (1))), none, false⟩,
 ⟨(some 21), .mov (.t 46), none, false⟩])))))))
 (.seq
 (.ops [⟨(some 2), .mov (.c (.bool true)), none, false⟩])
 .ret))))⟩
def n_kinds_Named : List (List Nat) := [[19, 20, 21]]
theorem c_kinds_Named : compFn Try.prog Try.f65 n_kinds_Named = some a_kinds_Named := by kernel_rfl
-- 66 wreckage/image.named
def a_image_named : AFunc := ⟨24, [.tmp 2],
 (.seq
 (.ops [⟨(some 2), .mov (.c (.bool false)), none, false⟩])
 (.seq
 (.seq
 (.ops [⟨(some 5), .mov (.t 0), none, false⟩,
 ⟨(some 6), .len (.t 5), none, false⟩,
 ⟨(some 7), .mov (.c (.int .i64 (0))), none, false⟩])
 (.block 0
 (.loop [0, 5, 6, 7]
 (.seq
 (.ops [⟨(some 8), .bin .lss (.t 7) (.t 6), none, false⟩])
 (.seq
 (.cond (.t 8)
 .skip
 (.exit 0))
 (.seq
 (.block 1
 (.seq
 (.ops [⟨(some 9), .mov (.t 7), none, false⟩,
 ⟨(some 10), .iaddr 2 (.t 5) (.t 7), none, false⟩,
 ⟨(some 11), .load true 2 (.t 10), none, false⟩,
 ⟨(some 4), .alloc [.str [], .int .i64 (0)], none, false⟩,
 ⟨(some 3), .mov (.t 9), none, false⟩,
 ⟨none, .store 2 (.t 4) (.t 11), none, false⟩])
 (.seq
 (.ops [⟨(some 12), .faddr 0 (.t 4), none, false⟩,
 ⟨(some 13), .load false 1 (.t 12), none, false⟩,
 ⟨(some 14), .call (.c (.fn (.func F_kinds_Named) [] [])) [(.t 13)], none, false⟩,
 ⟨(some 15), .un .not (.t 14), none, false⟩,
 ⟨(some 16), .mov (.t 15), none, false⟩,
 ⟨(some 17), .mov (.t 0), (some (16, false)), false⟩,
 ⟨(some 18), .mov (.t 3), (some (16, false)), false⟩,
 ⟨(some 19), .slice 2 (.t 17) none (some (.t 18)) none, (some (16, false)), false⟩,
 ⟨(some 20), .mkfn (.func F_image_named_1) [] [(.t 4)], (some (16, false)), false⟩,
 ⟨(some 21), .call (.c (.fn (.func F_slices_ContainsFunc_api_Field_api_Field) [] [])) [(.t 19), (.t 20)], (some (16, false)), false⟩,
 ⟨(some 22), .pick (.t 16) (.c (.bool true)) (.t 21), none, false⟩])
 (.cond (.t 22)
 (.seq
 (.ops [⟨(some 2), .mov (.c (.bool false)), none, false⟩])
 .ret)
 .skip))))
 (.ops [⟨(some 23), .bin .add (.t 7) (.c (.int .i64 (1))), none, false⟩,
 ⟨(some 7), .mov (.t 23), none, false⟩])))))))
 (.seq
 (.ops [⟨(some 2), .mov (.c (.bool true)), none, false⟩])
 .ret)))⟩
def n_image_named : List (List Nat) := [[0, 5, 6, 7]]
theorem c_image_named : compFn Try.prog Try.f66 n_image_named = some a_image_named := by kernel_rfl
-- 67 wreckage/ops.Check
def a_ops_Check : AFunc := ⟨36, [.tmp 2],
 (.seq
 (.ops [⟨(some 1), .box 4 (.t 0), none, false⟩,
 ⟨(some 2), .mov (.c (.int .i64 (0))), none, false⟩])
 (.seq
 (.ops [⟨(some 8), .faddr 0 (.t 1), none, false⟩,
 ⟨(some 9), .load false 1 (.t 8), none, false⟩,
 ⟨(some 10), .call (.c (.fn (.func F_ops_shape) [] [])) [(.t 9)], none, false⟩,
 ⟨(some 7), .mov (.t 10), none, false⟩,
 ⟨(some 11), .extract (.t 7) 0, none, false⟩,
 ⟨(some 12), .extract (.t 7) 1, none, false⟩,
 ⟨(some 3), .alloc [.int .i64 (0), .int .i64 (0), .bool false, .bool false, .int .i64 (0), .int .i64 (0), .bool false, .bool false, .int .i64 (0), .int .i64 (0), .bool false, .bool false], none, false⟩,
 ⟨none, .store 12 (.t 3) (.t 11), none, false⟩,
 ⟨(some 4), .mov (.t 12), none, false⟩])
 (.seq
 (.seq
 (.ops [⟨(some 13), .mov (.t 4), none, false⟩,
 ⟨(some 14), .bin .lss (.t 13) (.c (.int .i64 (0))), none, false⟩])
 (.cond (.t 14)
 (.seq
 (.ops [⟨(some 2), .mov (.c (.int .i64 (8))), none, false⟩])
 .ret)
 .skip))
 (.seq
 (.seq
 (.ops [⟨(some 15), .load true 4 (.t 1), none, false⟩,
 ⟨(some 16), .call (.c (.fn (.func F_ops_operands) [] [])) [(.t 15)], none, false⟩,
 ⟨(some 17), .mov (.c (.int .i64 (0))), none, false⟩])
 (.block 0
 (.loop [3, 16, 17]
 (.seq
 (.ops [⟨(some 18), .bin .lss (.t 17) (.c (.int .i64 (3))), none, false⟩])
 (.seq
 (.cond (.t 18)
 .skip
 (.exit 0))
 (.seq
 (.block 1
 (.seq
 (.ops [⟨(some 19), .mov (.t 17), none, false⟩,
 ⟨(some 20), .indexA 3 1 false (.t 16) (.t 17), none, false⟩,
 ⟨(some 5), .mov (.t 19), none, false⟩,
 ⟨(some 6), .mov (.t 20), none, false⟩])
 (.seq
 (.ops [⟨(some 21), .mov (.t 6), none, false⟩,
 ⟨(some 22), .mov (.t 5), none, false⟩,
 ⟨(some 23), .iaddrA 3 4 (.t 3) (.t 22), none, false⟩,
 ⟨(some 24), .faddr 0 (.t 23), none, false⟩,
 ⟨(some 25), .load false 1 (.t 24), none, false⟩,
 ⟨(some 26), .bin .lss (.t 21) (.t 25), none, false⟩,
 ⟨(some 27), .mov (.t 26), none, false⟩,
 ⟨(some 28), .mov (.t 6), (some (27, false)), false⟩,
 ⟨(some 29), .mov (.t 5), (some (27, false)), false⟩,
 ⟨(some 30), .iaddrA 3 4 (.t 3) (.t 29), (some (27, false)), false⟩,
 ⟨(some 31), .faddr 1 (.t 30), (some (27, false)), false⟩,
 ⟨(some 32), .load false 1 (.t 31), (some (27, false)), false⟩,
 ⟨(some 33), .bin .gtr (.t 28) (.t 32), (some (27, false)), false⟩,
 ⟨(some 34), .pick (.t 27) (.c (.bool true)) (.t 33), none, false⟩])
 (.cond (.t 34)
 (.seq
 (.ops [⟨(some 2), .mov (.c (.int .i64 (8))), none, false⟩])
 .ret)
 .skip))))
 (.ops [⟨(some 35), .bin .add (.t 17) (.c (.int .i64 (1))), none, false⟩,
 ⟨(some 17), .mov (.t 35), none, false⟩])))))))
 (.seq
 (.ops [⟨(some 2), .mov (.c (.int .i64 (0))), none, false⟩])
 .ret)))))⟩
def n_ops_Check : List (List Nat) := [[3, 16, 17]]
theorem c_ops_Check : compFn Try.prog Try.f67 n_ops_Check = some a_ops_Check := by kernel_rfl
-- 68 wreckage/wire.Vary$1
def a_wire_Vary_1 : AFunc := ⟨7, [],
 (.ops [⟨(some 3), .load false 1 (.t 1), none, false⟩,
 ⟨(some 4), .mov (.t 0), none, false⟩,
 ⟨(some 5), .lit 1 [(.t 4)], none, false⟩,
 ⟨(some 6), .app 1 1 (.t 3) (.t 5), none, false⟩,
 ⟨none, .store 1 (.t 1) (.t 6), none, false⟩])⟩
def n_wire_Vary_1 : List (List Nat) := []
theorem c_wire_Vary_1 : compFn Try.prog Try.f68 n_wire_Vary_1 = some a_wire_Vary_1 := by kernel_rfl
-- 69 wreckage/ops.shape
def a_ops_shape : AFunc := ⟨147, [.cell 2 true 12, .cell 3 false 1],
 (.seq
 (.ops [⟨(some 2), .alloc [.int .i64 (0), .int .i64 (0), .bool false, .bool false, .int .i64 (0), .int .i64 (0), .bool false, .bool false, .int .i64 (0), .int .i64 (0), .bool false, .bool false], none, false⟩,
 ⟨(some 3), .alloc [.int .i64 (0)], none, false⟩])
 (.seq
 (.ops [⟨(some 5), .mkfn (.func F_ops_shape_1) [] [(.t 2), (.t 3)], none, false⟩,
 ⟨(some 4), .mov (.t 5), none, false⟩])
 (.seq
 (.seq
 (.ops [⟨(some 6), .mov (.t 0), none, false⟩])
 (.block 0
 (.seq
 (.block 19
 (.seq
 (.block 18
 (.seq
 (.block 17
 (.seq
 (.block 16
 (.seq
 (.block 15
 (.seq
 (.block 14
 (.seq
 (.block 13
 (.seq
 (.block 12
 (.seq
 (.block 11
 (.seq
 (.block 10
 (.seq
 (.block 9
 (.seq
 (.block 8
 (.seq
 (.block 7
 (.seq
 (.block 6
 (.seq
 (.block 5
 (.seq
 (.block 4
 (.seq
 (.block 3
 (.seq
 (.block 2
 (.seq
 (.block 1
 (.seq
 (.seq
 (.seq
 (.seq
 (.ops [⟨(some 8), .bin .eql (.t 6) (.c (.int .u8 (30))), none, false⟩,
 ⟨(some 7), .mov (.t 8), none, false⟩])
 (.cond (.t 7)
 .skip
 (.ops [⟨(some 9), .bin .eql (.t 6) (.c (.int .u8 (31))), none, false⟩,
 ⟨(some 7), .mov (.t 9), none, false⟩])))
 (.cond (.t 7)
 (.exit 1)
 .skip))
 (.seq
 (.seq
 (.ops [⟨(some 11), .bin .eql (.t 6) (.c (.int .u8 (1))), none, false⟩,
 ⟨(some 10), .mov (.t 11), none, false⟩])
 (.cond (.t 10)
 (.exit 2)
 .skip))
 (.seq
 (.seq
 (.ops [⟨(some 13), .bin .eql (.t 6) (.c (.int .u8 (2))), none, false⟩,
 ⟨(some 12), .mov (.t 13), none, false⟩])
 (.cond (.t 12)
 (.exit 3)
 .skip))
 (.seq
 (.seq
 (.ops [⟨(some 15), .bin .eql (.t 6) (.c (.int .u8 (3))), none, false⟩,
 ⟨(some 14), .mov (.t 15), none, false⟩])
 (.cond (.t 14)
 (.exit 4)
 .skip))
 (.seq
 (.seq
 (.seq
 (.ops [⟨(some 17), .bin .eql (.t 6) (.c (.int .u8 (4))), none, false⟩,
 ⟨(some 16), .mov (.t 17), none, false⟩])
 (.cond (.t 16)
 .skip
 (.ops [⟨(some 18), .bin .eql (.t 6) (.c (.int .u8 (15))), none, false⟩,
 ⟨(some 16), .mov (.t 18), none, false⟩])))
 (.cond (.t 16)
 (.exit 5)
 .skip))
 (.seq
 (.seq
 (.seq
 (.ops [⟨(some 20), .bin .eql (.t 6) (.c (.int .u8 (6))), none, false⟩,
 ⟨(some 19), .mov (.t 20), none, false⟩])
 (.cond (.t 19)
 .skip
 (.seq
 (.ops [⟨(some 21), .bin .eql (.t 6) (.c (.int .u8 (7))), none, false⟩,
 ⟨(some 19), .mov (.t 21), none, false⟩])
 (.cond (.t 19)
 .skip
 (.seq
 (.ops [⟨(some 22), .bin .eql (.t 6) (.c (.int .u8 (8))), none, false⟩,
 ⟨(some 19), .mov (.t 22), none, false⟩])
 (.cond (.t 19)
 .skip
 (.seq
 (.ops [⟨(some 23), .bin .eql (.t 6) (.c (.int .u8 (9))), none, false⟩,
 ⟨(some 19), .mov (.t 23), none, false⟩])
 (.cond (.t 19)
 .skip
 (.seq
 (.ops [⟨(some 24), .bin .eql (.t 6) (.c (.int .u8 (10))), none, false⟩,
 ⟨(some 19), .mov (.t 24), none, false⟩])
 (.cond (.t 19)
 .skip
 (.seq
 (.ops [⟨(some 25), .bin .eql (.t 6) (.c (.int .u8 (11))), none, false⟩,
 ⟨(some 19), .mov (.t 25), none, false⟩])
 (.cond (.t 19)
 .skip
 (.ops [⟨(some 26), .bin .eql (.t 6) (.c (.int .u8 (19))), none, false⟩,
 ⟨(some 19), .mov (.t 26), none, false⟩])))))))))))))
 (.cond (.t 19)
 (.exit 6)
 .skip))
 (.seq
 (.seq
 (.seq
 (.ops [⟨(some 28), .bin .eql (.t 6) (.c (.int .u8 (5))), none, false⟩,
 ⟨(some 27), .mov (.t 28), none, false⟩])
 (.cond (.t 27)
 .skip
 (.seq
 (.ops [⟨(some 29), .bin .eql (.t 6) (.c (.int .u8 (12))), none, false⟩,
 ⟨(some 27), .mov (.t 29), none, false⟩])
 (.cond (.t 27)
 .skip
 (.seq
 (.ops [⟨(some 30), .bin .eql (.t 6) (.c (.int .u8 (16))), none, false⟩,
 ⟨(some 27), .mov (.t 30), none, false⟩])
 (.cond (.t 27)
 .skip
 (.seq
 (.ops [⟨(some 31), .bin .eql (.t 6) (.c (.int .u8 (18))), none, false⟩,
 ⟨(some 27), .mov (.t 31), none, false⟩])
 (.cond (.t 27)
 .skip
 (.seq
 (.ops [⟨(some 32), .bin .eql (.t 6) (.c (.int .u8 (21))), none, false⟩,
 ⟨(some 27), .mov (.t 32), none, false⟩])
 (.cond (.t 27)
 .skip
 (.ops [⟨(some 33), .bin .eql (.t 6) (.c (.int .u8 (33))), none, false⟩,
 ⟨(some 27), .mov (.t 33), none, false⟩])))))))))))
 (.cond (.t 27)
 (.exit 7)
 .skip))
 (.seq
 (.seq
 (.ops [⟨(some 35), .bin .eql (.t 6) (.c (.int .u8 (13))), none, false⟩,
 ⟨(some 34), .mov (.t 35), none, false⟩])
 (.cond (.t 34)
 (.exit 8)
 .skip))
 (.seq
 (.seq
 (.ops [⟨(some 37), .bin .eql (.t 6) (.c (.int .u8 (14))), none, false⟩,
 ⟨(some 36), .mov (.t 37), none, false⟩])
 (.cond (.t 36)
 (.exit 9)
 .skip))
 (.seq
 (.seq
 (.ops [⟨(some 39), .bin .eql (.t 6) (.c (.int .u8 (20))), none, false⟩,
 ⟨(some 38), .mov (.t 39), none, false⟩])
 (.cond (.t 38)
 (.exit 10)
 .skip))
 (.seq
 (.seq
 (.ops [⟨(some 41), .bin .eql (.t 6) (.c (.int .u8 (17))), none, false⟩,
 ⟨(some 40), .mov (.t 41), none, false⟩])
 (.cond (.t 40)
 (.exit 11)
 .skip))
 (.seq
 (.seq
 (.ops [⟨(some 43), .bin .eql (.t 6) (.c (.int .u8 (22))), none, false⟩,
 ⟨(some 42), .mov (.t 43), none, false⟩])
 (.cond (.t 42)
 (.exit 12)
 .skip))
 (.seq
 (.seq
 (.ops [⟨(some 45), .bin .eql (.t 6) (.c (.int .u8 (23))), none, false⟩,
 ⟨(some 44), .mov (.t 45), none, false⟩])
 (.cond (.t 44)
 (.exit 13)
 .skip))
 (.seq
 (.seq
 (.seq
 (.ops [⟨(some 47), .bin .eql (.t 6) (.c (.int .u8 (24))), none, false⟩,
 ⟨(some 46), .mov (.t 47), none, false⟩])
 (.cond (.t 46)
 .skip
 (.seq
 (.ops [⟨(some 48), .bin .eql (.t 6) (.c (.int .u8 (28))), none, false⟩,
 ⟨(some 46), .mov (.t 48), none, false⟩])
 (.cond (.t 46)
 .skip
 (.ops [⟨(some 49), .bin .eql (.t 6) (.c (.int .u8 (32))), none, false⟩,
 ⟨(some 46), .mov (.t 49), none, false⟩])))))
 (.cond (.t 46)
 (.exit 14)
 .skip))
 (.seq
 (.seq
 (.ops [⟨(some 51), .bin .eql (.t 6) (.c (.int .u8 (25))), none, false⟩,
 ⟨(some 50), .mov (.t 51), none, false⟩])
 (.cond (.t 50)
 (.exit 15)
 .skip))
 (.seq
 (.seq
 (.seq
 (.ops [⟨(some 53), .bin .eql (.t 6) (.c (.int .u8 (26))), none, false⟩,
 ⟨(some 52), .mov (.t 53), none, false⟩])
 (.cond (.t 52)
 .skip
 (.ops [⟨(some 54), .bin .eql (.t 6) (.c (.int .u8 (27))), none, false⟩,
 ⟨(some 52), .mov (.t 54), none, false⟩])))
 (.cond (.t 52)
 (.exit 16)
 .skip))
 (.seq
 (.seq
 (.ops [⟨(some 56), .bin .eql (.t 6) (.c (.int .u8 (29))), none, false⟩,
 ⟨(some 55), .mov (.t 56), none, false⟩])
 (.cond (.t 55)
 (.exit 17)
 .skip))
 (.seq
 (.ops [⟨(some 58), .bin .eql (.t 6) (.c (.int .u8 (34))), none, false⟩,
 ⟨(some 57), .mov (.t 58), none, false⟩])
 (.cond (.t 57)
 (.exit 18)
 .skip)))))))))))))))))))
 (.exit 19)))
 (.exit 0)))
 (.seq
 (.ops [⟨(some 59), .mov (.t 4), none, false⟩,
 ⟨(some 60), .call (.c (.fn (.func F_ops_write) [] [])) [], none, false⟩,
 ⟨(some 61), .call (.c (.fn (.func F_ops_whole) [] [])) [], none, false⟩,
 ⟨(some 62), .lit 4 [(.t 60), (.t 61)], none, false⟩,
 ⟨(some 63), .call (.t 59) [(.t 62)], none, false⟩])
 (.exit 0))))
 (.seq
 (.ops [⟨(some 64), .mov (.t 4), none, false⟩,
 ⟨(some 65), .call (.c (.fn (.func F_ops_write) [] [])) [], none, false⟩,
 ⟨(some 66), .call (.c (.fn (.func F_ops_below) [] [])) [(.c (.int .i64 (32)))], none, false⟩,
 ⟨(some 67), .lit 4 [(.t 65), (.t 66)], none, false⟩,
 ⟨(some 68), .call (.t 64) [(.t 67)], none, false⟩])
 (.exit 0))))
 (.seq
 (.ops [⟨(some 69), .mov (.t 4), none, false⟩,
 ⟨(some 70), .call (.c (.fn (.func F_ops_write) [] [])) [], none, false⟩,
 ⟨(some 71), .call (.c (.fn (.func F_ops_below) [] [])) [(.c (.int .i64 (2)))], none, false⟩,
 ⟨(some 72), .lit 4 [(.t 70), (.t 71)], none, false⟩,
 ⟨(some 73), .call (.t 69) [(.t 72)], none, false⟩])
 (.exit 0))))
 (.seq
 (.ops [⟨(some 74), .mov (.t 4), none, false⟩,
 ⟨(some 75), .call (.c (.fn (.func F_ops_write) [] [])) [], none, false⟩,
 ⟨(some 76), .lit 4 [(.t 75)], none, false⟩,
 ⟨(some 77), .call (.t 74) [(.t 76)], none, false⟩])
 (.exit 0))))
 (.ops [⟨(some 78), .call (.c (.fn (.func F_ops_read) [] [])) [], none, false⟩,
 ⟨(some 79), .iaddrA 3 4 (.t 2) (.c (.int .i64 (2))), none, false⟩,
 ⟨none, .store 4 (.t 79) (.t 78), none, false⟩])))
 (.seq
 (.seq
 (.ops [⟨(some 80), .call (.c (.fn (.func F_ops_write) [] [])) [], none, false⟩,
 ⟨(some 81), .call (.c (.fn (.func F_ops_read) [] [])) [], none, false⟩,
 ⟨(some 82), .iaddrA 3 4 (.t 2) (.c (.int .i64 (0))), none, false⟩,
 ⟨none, .store 4 (.t 82) (.t 80), none, false⟩,
 ⟨(some 83), .iaddrA 3 4 (.t 2) (.c (.int .i64 (1))), none, false⟩,
 ⟨none, .store 4 (.t 83) (.t 81), none, false⟩,
 ⟨none, .store 1 (.t 3) (.c (.int .i64 (2))), none, false⟩])
 (.seq
 (.ops [⟨(some 84), .iaddrA 3 4 (.t 2) (.c (.int .i64 (2))), none, false⟩,
 ⟨(some 85), .faddr 2 (.t 84), none, false⟩,
 ⟨(some 86), .load false 1 (.t 85), none, false⟩])
 (.cond (.t 86)
 (.ops [⟨none, .store 1 (.t 3) (.c (.int .i64 (3))), none, false⟩])
 .skip)))
 (.exit 0))))
 (.seq
 (.ops [⟨(some 87), .mov (.t 4), none, false⟩,
 ⟨(some 88), .call (.c (.fn (.func F_ops_write) [] [])) [], none, false⟩,
 ⟨(some 89), .call (.c (.fn (.func F_ops_read) [] [])) [], none, false⟩,
 ⟨(some 90), .call (.c (.fn (.func F_ops_below) [] [])) [(.c (.int .i64 (8)))], none, false⟩,
 ⟨(some 91), .lit 4 [(.t 88), (.t 89), (.t 90)], none, false⟩,
 ⟨(some 92), .call (.t 87) [(.t 91)], none, false⟩])
 (.exit 0))))
 (.seq
 (.ops [⟨(some 93), .mov (.t 4), none, false⟩,
 ⟨(some 94), .call (.c (.fn (.func F_ops_read) [] [])) [], none, false⟩,
 ⟨(some 95), .call (.c (.fn (.func F_ops_below) [] [])) [(.c (.int .i64 (8)))], none, false⟩,
 ⟨(some 96), .call (.c (.fn (.func F_ops_read) [] [])) [], none, false⟩,
 ⟨(some 97), .lit 4 [(.t 94), (.t 95), (.t 96)], none, false⟩,
 ⟨(some 98), .call (.t 93) [(.t 97)], none, false⟩])
 (.exit 0))))
 (.seq
 (.ops [⟨(some 99), .mov (.t 4), none, false⟩,
 ⟨(some 100), .call (.c (.fn (.func F_ops_read) [] [])) [], none, false⟩,
 ⟨(some 101), .call (.c (.fn (.func F_ops_read) [] [])) [], none, false⟩,
 ⟨(some 102), .call (.c (.fn (.func F_ops_read) [] [])) [], none, false⟩,
 ⟨(some 103), .lit 4 [(.t 100), (.t 101), (.t 102)], none, false⟩,
 ⟨(some 104), .call (.t 99) [(.t 103)], none, false⟩])
 (.exit 0))))
 (.seq
 (.ops [⟨(some 105), .mov (.t 4), none, false⟩,
 ⟨(some 106), .call (.c (.fn (.func F_ops_read) [] [])) [], none, false⟩,
 ⟨(some 107), .call (.c (.fn (.func F_ops_read) [] [])) [], none, false⟩,
 ⟨(some 108), .lit 4 [(.t 106), (.t 107)], none, false⟩,
 ⟨(some 109), .call (.t 105) [(.t 108)], none, false⟩])
 (.exit 0))))
 (.seq
 (.ops [⟨(some 110), .mov (.t 4), none, false⟩,
 ⟨(some 111), .call (.c (.fn (.func F_ops_below) [] [])) [(.c (.int .i64 (200)))], none, false⟩,
 ⟨(some 112), .lit 4 [(.t 111)], none, false⟩,
 ⟨(some 113), .call (.t 110) [(.t 112)], none, false⟩])
 (.exit 0))))
 (.seq
 (.ops [⟨(some 114), .mov (.t 4), none, false⟩,
 ⟨(some 115), .call (.c (.fn (.func F_ops_read) [] [])) [], none, false⟩,
 ⟨(some 116), .call (.c (.fn (.func F_ops_below) [] [])) [(.c (.int .i64 (200)))], none, false⟩,
 ⟨(some 117), .lit 4 [(.t 115), (.t 116)], none, false⟩,
 ⟨(some 118), .call (.t 114) [(.t 117)], none, false⟩])
 (.exit 0))))
 (.seq
 (.ops [⟨(some 119), .mov (.t 4), none, false⟩,
 ⟨(some 120), .call (.c (.fn (.func F_ops_read) [] [])) [], none, false⟩,
 ⟨(some 121), .lit 4 [(.t 120)], none, false⟩,
 ⟨(some 122), .call (.t 119) [(.t 121)], none, false⟩])
 (.exit 0))))
 (.seq
 (.seq
 (.ops [⟨(some 123), .mov (.t 4), none, false⟩,
 ⟨(some 124), .call (.c (.fn (.func F_ops_write) [] [])) [], none, false⟩,
 ⟨(some 125), .call (.c (.fn (.func F_ops_below) [] [])) [(.c (.int .i64 (32)))], none, false⟩,
 ⟨(some 126), .lit 4 [(.t 124), (.t 125)], none, false⟩,
 ⟨(some 127), .call (.t 123) [(.t 126)], none, false⟩])
 (.ops [⟨(some 128), .iaddrA 3 4 (.t 2) (.c (.int .i64 (0))), none, false⟩,
 ⟨(some 129), .faddr 0 (.t 128), none, false⟩,
 ⟨none, .store 1 (.t 129) (.c (.int .i64 (-1))), none, false⟩]))
 (.exit 0))))
 (.seq
 (.ops [⟨(some 130), .mov (.t 4), none, false⟩,
 ⟨(some 131), .call (.c (.fn (.func F_ops_below) [] [])) [(.c (.int .i64 (32)))], none, false⟩,
 ⟨(some 132), .lit 4 [(.t 131)], none, false⟩,
 ⟨(some 133), .call (.t 130) [(.t 132)], none, false⟩])
 (.exit 0))))
 (.seq
 (.ops [⟨(some 134), .mov (.t 4), none, false⟩,
 ⟨(some 135), .call (.c (.fn (.func F_ops_write) [] [])) [], none, false⟩,
 ⟨(some 136), .call (.c (.fn (.func F_ops_write) [] [])) [], none, false⟩,
 ⟨(some 137), .lit 4 [(.t 135), (.t 136)], none, false⟩,
 ⟨(some 138), .call (.t 134) [(.t 137)], none, false⟩])
 (.exit 0))))
 (.seq
 (.seq
 (.ops [⟨(some 139), .mov (.t 4), none, false⟩,
 ⟨(some 140), .call (.c (.fn (.func F_ops_read) [] [])) [], none, false⟩,
 ⟨(some 141), .lit 4 [(.t 140)], none, false⟩,
 ⟨(some 142), .call (.t 139) [(.t 141)], none, false⟩])
 (.ops [⟨(some 143), .iaddrA 3 4 (.t 2) (.c (.int .i64 (0))), none, false⟩,
 ⟨(some 144), .faddr 0 (.t 143), none, false⟩,
 ⟨none, .store 1 (.t 144) (.c (.int .i64 (-1))), none, false⟩]))
 (.exit 0))))
 (.seq
 (.ops [⟨none, .store 1 (.t 3) (.c (.int .i64 (-1))), none, false⟩])
 (.exit 0)))))
 (.seq
 (.draw [⟨(some 145), .load true 12 (.t 2), none, false⟩,
 ⟨(some 146), .ext (.wload false 1 (.t 3)), none, true⟩,
 ⟨none, .store 12 (.t 2) (.t 145), none, false⟩,
 ⟨none, .store 1 (.t 3) (.t 146), none, false⟩])
 .ret))))⟩
def n_ops_shape : List (List Nat) := []
theorem c_ops_shape : compFn Try.prog Try.f69 n_ops_shape = some a_ops_shape := by kernel_rfl
-- 70 wreckage/ops.operands
def a_ops_operands : AFunc := ⟨10, [.cell 2 true 3],
 (.seq
 (.ops [⟨(some 1), .box 4 (.t 0), none, false⟩,
 ⟨(some 2), .alloc [.int .i64 (0), .int .i64 (0), .int .i64 (0)], none, false⟩])
 (.seq
 (.ops [⟨(some 3), .faddr 1 (.t 1), none, false⟩,
 ⟨(some 4), .load false 1 (.t 3), none, false⟩,
 ⟨(some 5), .faddr 2 (.t 1), none, false⟩,
 ⟨(some 6), .load false 1 (.t 5), none, false⟩,
 ⟨(some 7), .faddr 3 (.t 1), none, false⟩,
 ⟨(some 8), .load false 1 (.t 7), none, false⟩,
 ⟨(some 9), .build [.int .i64 (0), .int .i64 (0), .int .i64 (0)] [(0, 1, (.t 4)), (1, 1, (.t 6)), (2, 1, (.t 8))], none, false⟩,
 ⟨none, .store 3 (.t 2) (.t 9), none, false⟩])
 .ret))⟩
def n_ops_operands : List (List Nat) := []
theorem c_ops_operands : compFn Try.prog Try.f70 n_ops_operands = some a_ops_operands := by kernel_rfl
-- 71 wreckage/wreckageref04.Parts
def a_wreckageref04_Parts : AFunc := ⟨30, [.tmp 2],
 (.seq
 (.ops [⟨(some 1), .box 4 (.t 0), none, false⟩,
 ⟨(some 2), .mov (.c (.nils)), none, false⟩])
 (.seq
 (.ops [⟨(some 3), .mov (.c (.nils)), none, false⟩])
 (.seq
 (.seq
 (.ops [⟨(some 5), .faddr 0 (.t 1), none, false⟩,
 ⟨(some 6), .load false 1 (.t 5), none, false⟩,
 ⟨(some 7), .bin .eql (.t 6) (.c (.int .u8 (6))), none, false⟩])
 (.cond (.t 7)
 (.ops [⟨(some 8), .mov (.t 3), none, false⟩,
 ⟨(some 9), .faddr 1 (.t 1), none, false⟩,
 ⟨(some 10), .load false 1 (.t 9), none, false⟩,
 ⟨(some 11), .lit 1 [(.t 10)], none, false⟩,
 ⟨(some 12), .app 1 8 (.t 8) (.t 11), none, false⟩,
 ⟨(some 3), .mov (.t 12), none, false⟩])
 .skip))
 (.seq
 (.seq
 (.ops [⟨(some 4), .mov (.c (.int .i64 (0))), none, false⟩])
 (.block 0
 (.loop [1, 3, 4]
 (.seq
 (.seq
 (.ops [⟨(some 13), .mov (.t 4), none, false⟩,
 ⟨(some 14), .faddr 3 (.t 1), none, false⟩,
 ⟨(some 15), .load false 1 (.t 14), none, false⟩,
 ⟨(some 16), .len (.t 15), none, false⟩,
 ⟨(some 17), .bin .lss (.t 13) (.t 16), none, false⟩])
 (.cond (.t 17)
 .skip
 (.exit 0)))
 (.seq
 (.block 1
 (.ops [⟨(some 20), .mov (.t 3), none, false⟩,
 ⟨(some 21), .faddr 3 (.t 1), none, false⟩,
 ⟨(some 22), .load false 1 (.t 21), none, false⟩,
 ⟨(some 23), .mov (.t 4), none, false⟩,
 ⟨(some 24), .iaddr 2 (.t 22) (.t 23), none, false⟩,
 ⟨(some 25), .faddr 1 (.t 24), none, false⟩,
 ⟨(some 26), .load false 1 (.t 25), none, false⟩,
 ⟨(some 27), .lit 1 [(.t 26)], none, false⟩,
 ⟨(some 28), .app 1 8 (.t 20) (.t 27), none, false⟩,
 ⟨(some 3), .mov (.t 28), none, false⟩]))
 (.ops [⟨(some 18), .mov (.t 4), none, false⟩,
 ⟨(some 19), .bin .add (.t 18) (.c (.int .i64 (1))), none, false⟩,
 ⟨(some 4), .mov (.t 19), none, false⟩]))))))
 (.seq
 (.ops [⟨(some 29), .mov (.t 3), none, false⟩,
 ⟨(some 2), .mov (.t 29), none, false⟩])
 .ret)))))⟩
def n_wreckageref04_Parts : List (List Nat) := [[1, 3, 4]]
theorem c_wreckageref04_Parts : compFn Try.prog Try.f71 n_wreckageref04_Parts = some a_wreckageref04_Parts := by kernel_rfl
-- 72 wreckage/wreckageref05.up
def a_wreckageref05_up : AFunc := ⟨13, [.tmp 4],
 (.seq
 (.ops [⟨(some 4), .mov (.c (.int .i64 (0))), none, false⟩])
 (.seq
 (.ops [⟨(some 5), .mov (.t 0), none, false⟩,
 ⟨(some 6), .mov (.t 1), none, false⟩,
 ⟨(some 7), .bin .add (.t 5) (.t 6), none, false⟩,
 ⟨(some 8), .bin .sub (.t 7) (.c (.int .i64 (1))), none, false⟩,
 ⟨(some 9), .mov (.t 1), none, false⟩,
 ⟨(some 10), .bin .quo (.t 8) (.t 9), none, false⟩,
 ⟨(some 11), .mov (.t 1), none, false⟩,
 ⟨(some 12), .bin .mul (.t 10) (.t 11), none, false⟩,
 ⟨(some 4), .mov (.t 12), none, false⟩])
 .ret))⟩
def n_wreckageref05_up : List (List Nat) := []
theorem c_wreckageref05_up : compFn Try.prog Try.f72 n_wreckageref05_up = some a_wreckageref05_up := by kernel_rfl
-- 73 wreckage/wreckageref04.Letter
def a_wreckageref04_Letter : AFunc := ⟨17, [.tmp 2],
 (.seq
 (.ops [⟨(some 2), .mov (.c (.bool false)), none, false⟩])
 (.seq
 (.ops [⟨(some 3), .mov (.t 0), none, false⟩,
 ⟨(some 4), .bin .geq (.t 3) (.c (.int .u8 (97))), none, false⟩,
 ⟨(some 5), .mov (.t 4), none, false⟩,
 ⟨(some 6), .mov (.t 0), (some (5, true)), false⟩,
 ⟨(some 7), .bin .leq (.t 6) (.c (.int .u8 (122))), (some (5, true)), false⟩,
 ⟨(some 8), .pick (.t 5) (.t 7) (.c (.bool false)), none, false⟩,
 ⟨(some 9), .mov (.t 8), none, false⟩,
 ⟨(some 10), .mov (.t 0), (some (9, false)), false⟩,
 ⟨(some 11), .bin .geq (.t 10) (.c (.int .u8 (65))), (some (9, false)), false⟩,
 ⟨(some 12), .mov (.t 11), (some (9, false)), false⟩,
 ⟨(some 13), .mov (.t 0), (some (12, true)), false⟩,
 ⟨(some 14), .bin .leq (.t 13) (.c (.int .u8 (90))), (some (12, true)), false⟩,
 ⟨(some 15), .pick (.t 12) (.t 14) (.c (.bool false)), (some (9, false)), false⟩,
 ⟨(some 16), .pick (.t 9) (.c (.bool true)) (.t 15), none, false⟩,
 ⟨(some 2), .mov (.t 16), none, false⟩])
 .ret))⟩
def n_wreckageref04_Letter : List (List Nat) := []
theorem c_wreckageref04_Letter : compFn Try.prog Try.f73 n_wreckageref04_Letter = some a_wreckageref04_Letter := by kernel_rfl
-- 74 wreckage/wreckageref06.Fits
def a_wreckageref06_Fits : AFunc := ⟨61, [.tmp 4],
 (.seq
 (.ops [⟨(some 4), .mov (.c (.bool false)), none, false⟩])
 (.seq
 (.seq
 (.ops [⟨(some 5), .mov (.t 0), none, false⟩])
 (.block 0
 (.seq
 (.ops [⟨(some 7), .bin .eql (.t 5) (.c (.int .u8 (45))), none, false⟩,
 ⟨(some 6), .mov (.t 7), none, false⟩])
 (.cond (.t 6)
 (.seq
 (.ops [⟨(some 8), .mov (.t 1), none, false⟩,
 ⟨(some 9), .bin .eql (.t 8) (.c (.int .i64 (0))), none, false⟩,
 ⟨(some 4), .mov (.t 9), none, false⟩])
 .ret)
 (.seq
 (.seq
 (.ops [⟨(some 11), .bin .eql (.t 5) (.c (.int .u8 (119))), none, false⟩,
 ⟨(some 10), .mov (.t 11), none, false⟩])
 (.cond (.t 10)
 .skip
 (.ops [⟨(some 12), .bin .eql (.t 5) (.c (.int .u8 (114))), none, false⟩,
 ⟨(some 10), .mov (.t 12), none, false⟩])))
 (.cond (.t 10)
 (.seq
 (.ops [⟨(some 13), .mov (.t 1), none, false⟩,
 ⟨(some 14), .bin .geq (.t 13) (.c (.int .i64 (0))), none, false⟩,
 ⟨(some 15), .mov (.t 14), none, false⟩,
 ⟨(some 16), .mov (.t 1), (some (15, true)), false⟩,
 ⟨(some 17), .bin .lss (.t 16) (.c (.int .i64 (16))), (some (15, true)), false⟩,
 ⟨(some 18), .pick (.t 15) (.t 17) (.c (.bool false)), none, false⟩,
 ⟨(some 4), .mov (.t 18), none, false⟩])
 .ret)
 (.seq
 (.seq
 (.ops [⟨(some 20), .bin .eql (.t 5) (.c (.int .u8 (103))), none, false⟩,
 ⟨(some 19), .mov (.t 20), none, false⟩])
 (.cond (.t 19)
 .skip
 (.ops [⟨(some 21), .bin .eql (.t 5) (.c (.int .u8 (101))), none, false⟩,
 ⟨(some 19), .mov (.t 21), none, false⟩])))
 (.cond (.t 19)
 (.seq
 (.ops [⟨(some 22), .mov (.t 1), none, false⟩,
 ⟨(some 23), .bin .geq (.t 22) (.c (.int .i64 (-1))), none, false⟩,
 ⟨(some 24), .mov (.t 23), none, false⟩,
 ⟨(some 25), .mov (.t 1), (some (24, true)), false⟩,
 ⟨(some 26), .bin .lss (.t 25) (.c (.int .i64 (16))), (some (24, true)), false⟩,
 ⟨(some 27), .pick (.t 24) (.t 26) (.c (.bool false)), none, false⟩,
 ⟨(some 4), .mov (.t 27), none, false⟩])
 .ret)
 (.seq
 (.seq
 (.ops [⟨(some 29), .bin .eql (.t 5) (.c (.int .u8 (116))), none, false⟩,
 ⟨(some 28), .mov (.t 29), none, false⟩])
 (.cond (.t 28)
 .skip
 (.ops [⟨(some 30), .bin .eql (.t 5) (.c (.int .u8 (99))), none, false⟩,
 ⟨(some 28), .mov (.t 30), none, false⟩])))
 (.cond (.t 28)
 (.seq
 (.ops [⟨(some 31), .mov (.t 1), none, false⟩,
 ⟨(some 32), .bin .geq (.t 31) (.c (.int .i64 (0))), none, false⟩,
 ⟨(some 33), .mov (.t 32), none, false⟩,
 ⟨(some 34), .mov (.t 1), (some (33, true)), false⟩,
 ⟨(some 35), .bin .lss (.t 34) (.c (.int .i64 (32))), (some (33, true)), false⟩,
 ⟨(some 36), .pick (.t 33) (.t 35) (.c (.bool false)), none, false⟩,
 ⟨(some 4), .mov (.t 36), none, false⟩])
 .ret)
 (.seq
 (.ops [⟨(some 38), .bin .eql (.t 5) (.c (.int .u8 (98))), none, false⟩,
 ⟨(some 37), .mov (.t 38), none, false⟩])
 (.cond (.t 37)
 (.seq
 (.ops [⟨(some 39), .mov (.t 1), none, false⟩,
 ⟨(some 40), .bin .geq (.t 39) (.c (.int .i64 (0))), none, false⟩,
 ⟨(some 41), .mov (.t 40), none, false⟩,
 ⟨(some 42), .mov (.t 1), (some (41, true)), false⟩,
 ⟨(some 43), .bin .lss (.t 42) (.c (.int .i64 (2))), (some (41, true)), false⟩,
 ⟨(some 44), .pick (.t 41) (.t 43) (.c (.bool false)), none, false⟩,
 ⟨(some 4), .mov (.t 44), none, false⟩])
 .ret)
 (.seq
 (.ops [⟨(some 46), .bin .eql (.t 5) (.c (.int .u8 (102))), none, false⟩,
 ⟨(some 45), .mov (.t 46), none, false⟩])
 (.cond (.t 45)
 (.seq
 (.ops [⟨(some 47), .mov (.t 1), none, false⟩,
 ⟨(some 48), .bin .geq (.t 47) (.c (.int .i64 (0))), none, false⟩,
 ⟨(some 49), .mov (.t 48), none, false⟩,
 ⟨(some 50), .mov (.t 1), (some (49, true)), false⟩,
 ⟨(some 51), .bin .lss (.t 50) (.c (.int .i64 (8))), (some (49, true)), false⟩,
 ⟨(some 52), .pick (.t 49) (.t 51) (.c (.bool false)), none, false⟩,
 ⟨(some 4), .mov (.t 52), none, false⟩])
 .ret)
 (.seq
 (.ops [⟨(some 54), .bin .eql (.t 5) (.c (.int .u8 (105))), none, false⟩,
 ⟨(some 53), .mov (.t 54), none, false⟩])
 (.cond (.t 53)
 (.seq
 (.ops [⟨(some 55), .mov (.t 1), none, false⟩,
 ⟨(some 56), .bin .geq (.t 55) (.c (.int .i64 (0))), none, false⟩,
 ⟨(some 57), .mov (.t 56), none, false⟩,
 ⟨(some 58), .mov (.t 1), (some (57, true)), false⟩,
 ⟨(some 59), .bin .lss (.t 58) (.c (.int .i64 (200))), (some (57, true)), false⟩,
 ⟨(some 60), .pick (.t 57) (.t 59) (.c (.bool false)), none, false⟩,
 ⟨(some 4), .mov (.t 60), none, false⟩])
 .ret)
 .skip))))))))))))))))
 (.seq
 (.ops [⟨(some 4), .mov (.c (.bool true)), none, false⟩])
 .ret)))⟩
def n_wreckageref06_Fits : List (List Nat) := []
theorem c_wreckageref06_Fits : compFn Try.prog Try.f74 n_wreckageref06_Fits = some a_wreckageref06_Fits := by kernel_rfl
-- 75 wreckage/kinds.fine$1
def a_kinds_fine_1 : AFunc := ⟨12, [.tmp 4],
 (.seq
 (.ops [⟨(some 4), .mov (.c (.bool false)), none, false⟩])
 (.seq
 (.ops [⟨(some 5), .mov (.t 0), none, false⟩,
 ⟨(some 6), .bin .geq (.t 5) (.c (.int .i64 (0))), none, false⟩,
 ⟨(some 7), .mov (.t 6), none, false⟩,
 ⟨(some 8), .mov (.t 0), (some (7, true)), false⟩,
 ⟨(some 9), .mov (.t 1), (some (7, true)), false⟩,
 ⟨(some 10), .bin .lss (.t 8) (.t 9), (some (7, true)), false⟩,
 ⟨(some 11), .pick (.t 7) (.t 10) (.c (.bool false)), none, false⟩,
 ⟨(some 4), .mov (.t 11), none, false⟩])
 .ret))⟩
def n_kinds_fine_1 : List (List Nat) := []
theorem c_kinds_fine_1 : compFn Try.prog Try.f75 n_kinds_fine_1 = some a_kinds_fine_1 := by kernel_rfl
-- 76 wreckage/kinds.zero
def a_kinds_zero : AFunc := ⟨6, [.tmp 2],
 (.seq
 (.ops [⟨(some 2), .mov (.c (.bool false)), none, false⟩])
 (.seq
 (.ops [⟨(some 3), .mov (.t 0), none, false⟩,
 ⟨(some 4), .call (.c (.fn (.func F_slices_ContainsFunc_int_int) [] [])) [(.t 3), (.c (.fn (.func F_kinds_zero_1) [] []))], none, false⟩,
 ⟨(some 5), .un .not (.t 4), none, false⟩,
 ⟨(some 2), .mov (.t 5), none, false⟩])
 .ret))⟩
def n_kinds_zero : List (List Nat) := []
theorem c_kinds_zero : compFn Try.prog Try.f76 n_kinds_zero = some a_kinds_zero := by kernel_rfl
-- 77 wreckage/layout.extents
def a_layout_extents : AFunc := ⟨77, [.tmp 2],
 (.seq
 (.ops [⟨(some 2), .mov (.c (.nils)), none, false⟩])
 (.seq
 (.ops [⟨(some 7), .mov (.t 0), none, false⟩,
 ⟨(some 8), .len (.t 7), none, false⟩,
 ⟨(some 9), .make 2 16 [.int .i64 (0), .int .i64 (0)] (.t 8) (.t 8), none, false⟩,
 ⟨(some 3), .mov (.t 9), none, false⟩])
 (.seq
 (.seq
 (.ops [⟨(some 10), .mov (.t 0), none, false⟩,
 ⟨(some 11), .len (.t 10), none, false⟩,
 ⟨(some 12), .mov (.c (.int .i64 (0))), none, false⟩])
 (.block 0
 (.loop [3, 10, 11, 12]
 (.seq
 (.ops [⟨(some 13), .bin .lss (.t 12) (.t 11), none, false⟩])
 (.seq
 (.cond (.t 13)
 .skip
 (.exit 0))
 (.seq
 (.block 1
 (.seq
 (.ops [⟨(some 14), .mov (.t 12), none, false⟩,
 ⟨(some 15), .iaddr 4 (.t 10) (.t 12), none, false⟩,
 ⟨(some 16), .load true 4 (.t 15), none, false⟩,
 ⟨(some 5), .alloc [.int .u8 (0), .int .i64 (0), .int .i64 (0), .nils], none, false⟩,
 ⟨(some 4), .mov (.t 14), none, false⟩,
 ⟨none, .store 4 (.t 5) (.t 16), none, false⟩])
 (.seq
 (.ops [⟨(some 17), .faddr 0 (.t 5), none, false⟩,
 ⟨(some 18), .load false 1 (.t 17), none, false⟩])
 (.block 2
 (.seq
 (.ops [⟨(some 20), .bin .eql (.t 18) (.c (.int .u8 (1))), none, false⟩,
 ⟨(some 19), .mov (.t 20), none, false⟩])
 (.cond (.t 19)
 (.ops [⟨(some 21), .mov (.t 3), none, false⟩,
 ⟨(some 22), .mov (.t 4), none, false⟩,
 ⟨(some 23), .build [.int .i64 (0), .int .i64 (0)] [(0, 1, (.c (.int .i64 (1)))), (1, 1, (.c (.int .i64 (1))))], none, false⟩,
 ⟨(some 24), .iaddr 2 (.t 21) (.t 22), none, false⟩,
 ⟨none, .store 2 (.t 24) (.t 23), none, false⟩])
 (.seq
 (.seq
 (.ops [⟨(some 26), .bin .eql (.t 18) (.c (.int .u8 (2))), none, false⟩,
 ⟨(some 25), .mov (.t 26), none, false⟩])
 (.cond (.t 25)
 .skip
 (.ops [⟨(some 27), .bin .eql (.t 18) (.c (.int .u8 (4))), none, false⟩,
 ⟨(some 25), .mov (.t 27), none, false⟩])))
 (.cond (.t 25)
 (.ops [⟨(some 28), .mov (.t 3), none, false⟩,
 ⟨(some 29), .mov (.t 4), none, false⟩,
 ⟨(some 30), .build [.int .i64 (0), .int .i64 (0)] [(0, 1, (.c (.int .i64 (8)))), (1, 1, (.c (.int .i64 (8))))], none, false⟩,
 ⟨(some 31), .iaddr 2 (.t 28) (.t 29), none, false⟩,
 ⟨none, .store 2 (.t 31) (.t 30), none, false⟩])
 (.seq
 (.ops [⟨(some 33), .bin .eql (.t 18) (.c (.int .u8 (3))), none, false⟩,
 ⟨(some 32), .mov (.t 33), none, false⟩])
 (.cond (.t 32)
 (.ops [⟨(some 34), .mov (.t 3), none, false⟩,
 ⟨(some 35), .mov (.t 4), none, false⟩,
 ⟨(some 36), .build [.int .i64 (0), .int .i64 (0)] [(0, 1, (.c (.int .i64 (16)))), (1, 1, (.c (.int .i64 (8))))], none, false⟩,
 ⟨(some 37), .iaddr 2 (.t 34) (.t 35), none, false⟩,
 ⟨none, .store 2 (.t 37) (.t 36), none, false⟩])
 (.seq
 (.ops [⟨(some 39), .bin .eql (.t 18) (.c (.int .u8 (7))), none, false⟩,
 ⟨(some 38), .mov (.t 39), none, false⟩])
 (.cond (.t 38)
 (.ops [⟨(some 40), .mov (.t 3), none, false⟩,
 ⟨(some 41), .mov (.t 4), none, false⟩,
 ⟨(some 42), .build [.int .i64 (0), .int .i64 (0)] [(0, 1, (.c (.int .i64 (24)))), (1, 1, (.c (.int .i64 (8))))], none, false⟩,
 ⟨(some 43), .iaddr 2 (.t 40) (.t 41), none, false⟩,
 ⟨none, .store 2 (.t 43) (.t 42), none, false⟩])
 (.seq
 (.ops [⟨(some 45), .bin .eql (.t 18) (.c (.int .u8 (6))), none, false⟩,
 ⟨(some 44), .mov (.t 45), none, false⟩])
 (.cond (.t 44)
 (.seq
 (.ops [⟨(some 46), .mov (.t 3), none, false⟩,
 ⟨(some 47), .faddr 1 (.t 5), none, false⟩,
 ⟨(some 48), .load false 1 (.t 47), none, false⟩,
 ⟨(some 49), .iaddr 2 (.t 46) (.t 48), none, false⟩,
 ⟨(some 50), .load true 2 (.t 49), none, false⟩,
 ⟨(some 6), .alloc [.int .i64 (0), .int .i64 (0)], none, false⟩,
 ⟨none, .store 2 (.t 6) (.t 50), none, false⟩])
 (.ops [⟨(some 51), .mov (.t 3), none, false⟩,
 ⟨(some 52), .mov (.t 4), none, false⟩,
 ⟨(some 53), .faddr 2 (.t 5), none, false⟩,
 ⟨(some 54), .load false 1 (.t 53), none, false⟩,
 ⟨(some 55), .faddr 0 (.t 6), none, false⟩,
 ⟨(some 56), .load false 1 (.t 55), none, false⟩,
 ⟨(some 57), .bin .mul (.t 54) (.t 56), none, false⟩,
 ⟨(some 58), .mn (.c (.int .i64 (1048576))) (.t 57), none, false⟩,
 ⟨(some 59), .faddr 1 (.t 6), none, false⟩,
 ⟨(some 60), .load false 1 (.t 59), none, false⟩,
 ⟨(some 61), .build [.int .i64 (0), .int .i64 (0)] [(0, 1, (.t 58)), (1, 1, (.t 60))], none, false⟩,
 ⟨(some 62), .iaddr 2 (.t 51) (.t 52), none, false⟩,
 ⟨none, .store 2 (.t 62) (.t 61), none, false⟩]))
 (.seq
 (.ops [⟨(some 64), .bin .eql (.t 18) (.c (.int .u8 (5))), none, false⟩,
 ⟨(some 63), .mov (.t 64), none, false⟩])
 (.cond (.t 63)
 (.ops [⟨(some 66), .mov (.t 3), none, false⟩,
 ⟨(some 67), .mov (.t 4), none, false⟩,
 ⟨(some 68), .mov (.t 3), none, false⟩,
 ⟨(some 69), .faddr 3 (.t 5), none, false⟩,
 ⟨(some 70), .load false 1 (.t 69), none, false⟩,
 ⟨(some 71), .call (.c (.fn (.func F_layout_lay) [] [])) [(.t 68), (.t 70)], none, false⟩,
 ⟨(some 65), .mov (.t 71), none, false⟩,
 ⟨(some 72), .extract (.t 65) 0, none, false⟩,
 ⟨(some 73), .extract (.t 65) 1, none, false⟩,
 ⟨(some 74), .iaddr 2 (.t 66) (.t 67), none, false⟩,
 ⟨none, .store 2 (.t 74) (.t 73), none, false⟩])
 .skip))))))))))))))))
 (.ops [⟨(some 75), .bin .add (.t 12) (.c (.int .i64 (1))), none, false⟩,
 ⟨(some 12), .mov (.t 75), none, false⟩])))))))
 (.seq
 (.ops [⟨(some 76), .mov (.t 3), none, false⟩,
 ⟨(some 2), .mov (.t 76), none, false⟩])
 .ret))))⟩
def n_layout_extents : List (List Nat) := [[3, 10, 11, 12]]
theorem c_layout_extents : compFn Try.prog Try.f77 n_layout_extents = some a_layout_extents := by kernel_rfl
-- 78 slices.ContainsFunc[[]wreckage/api.Field,wreckage/api.Field]
def a_slices_ContainsFunc_api_Field_api_Field : AFunc := ⟨9, [.tmp 4],
 (.seq
 (.ops [⟨(some 4), .mov (.c (.bool false)), none, false⟩])
 (.seq
 (.ops [⟨(some 5), .mov (.t 0), none, false⟩,
 ⟨(some 6), .mov (.t 1), none, false⟩,
 ⟨(some 7), .call (.c (.fn (.func F_slices_IndexFunc_api_Field_api_Field) [] [])) [(.t 5), (.t 6)], none, false⟩,
 ⟨(some 8), .bin .geq (.t 7) (.c (.int .i64 (0))), none, false⟩,
 ⟨(some 4), .mov (.t 8), none, false⟩])
 .ret))⟩
def n_slices_ContainsFunc_api_Field_api_Field : List (List Nat) := []
theorem c_slices_ContainsFunc_api_Field_api_Field : compFn Try.prog Try.f78 n_slices_ContainsFunc_api_Field_api_Field = some a_slices_ContainsFunc_api_Field_api_Field := by kernel_rfl
-- 79 wreckage/image.named$1
def a_image_named_1 : AFunc := ⟨9, [.tmp 3],
 (.seq
 (.ops [⟨(some 2), .box 2 (.t 0), none, false⟩,
 ⟨(some 3), .mov (.c (.bool false)), none, false⟩])
 (.seq
 (.ops [⟨(some 4), .faddr 0 (.t 2), none, false⟩,
 ⟨(some 5), .load false 1 (.t 4), none, false⟩,
 ⟨(some 6), .faddr 0 (.t 1), none, false⟩,
 ⟨(some 7), .load false 1 (.t 6), none, false⟩,
 ⟨(some 8), .bin .eql (.t 5) (.t 7), none, false⟩,
 ⟨(some 3), .mov (.t 8), none, false⟩])
 .ret))⟩
def n_image_named_1 : List (List Nat) := []
theorem c_image_named_1 : compFn Try.prog Try.f79 n_image_named_1 = some a_image_named_1 := by kernel_rfl
-- 80 wreckage/ops.shape$1
def a_ops_shape_1 : AFunc := ⟨7, [],
 (.ops [⟨(some 4), .sliceA 3 4 (.t 1) none none, none, false⟩,
 ⟨(some 5), .mov (.t 0), none, false⟩,
 ⟨(some 6), .ext (.copy 4 (.t 4) (.t 5)), none, false⟩,
 ⟨none, .store 1 (.t 2) (.t 6), none, false⟩])⟩
def n_ops_shape_1 : List (List Nat) := []
theorem c_ops_shape_1 : compFn Try.prog Try.f80 n_ops_shape_1 = some a_ops_shape_1 := by kernel_rfl
-- 81 wreckage/ops.write
def a_ops_write : AFunc := ⟨2, [.cell 0 true 4],
 (.seq
 (.ops [⟨(some 0), .alloc [.int .i64 (0), .int .i64 (0), .bool false, .bool false], none, false⟩])
 (.seq
 (.ops [⟨(some 1), .build [.int .i64 (0), .int .i64 (0), .bool false, .bool false] [(0, 1, (.c (.int .i64 (0)))), (1, 1, (.c (.int .i64 (15)))), (2, 1, (.c (.bool false))), (3, 1, (.c (.bool true)))], none, false⟩,
 ⟨none, .store 4 (.t 0) (.t 1), none, false⟩])
 .ret))⟩
def n_ops_write : List (List Nat) := []
theorem c_ops_write : compFn Try.prog Try.f81 n_ops_write = some a_ops_write := by kernel_rfl
-- 82 wreckage/ops.whole
def a_ops_whole : AFunc := ⟨2, [.cell 0 true 4],
 (.seq
 (.ops [⟨(some 0), .alloc [.int .i64 (0), .int .i64 (0), .bool false, .bool false], none, false⟩])
 (.seq
 (.ops [⟨(some 1), .build [.int .i64 (0), .int .i64 (0), .bool false, .bool false] [(0, 1, (.c (.int .i64 (-9223372036854775808)))), (1, 1, (.c (.int .i64 (9223372036854775807)))), (2, 1, (.c (.bool false))), (3, 1, (.c (.bool false)))], none, false⟩,
 ⟨none, .store 4 (.t 0) (.t 1), none, false⟩])
 .ret))⟩
def n_ops_whole : List (List Nat) := []
theorem c_ops_whole : compFn Try.prog Try.f82 n_ops_whole = some a_ops_whole := by kernel_rfl
-- 83 wreckage/ops.below
def a_ops_below : AFunc := ⟨6, [.cell 2 true 4],
 (.seq
 (.ops [⟨(some 2), .alloc [.int .i64 (0), .int .i64 (0), .bool false, .bool false], none, false⟩])
 (.seq
 (.ops [⟨(some 3), .mov (.t 0), none, false⟩,
 ⟨(some 4), .bin .sub (.t 3) (.c (.int .i64 (1))), none, false⟩,
 ⟨(some 5), .build [.int .i64 (0), .int .i64 (0), .bool false, .bool false] [(0, 1, (.c (.int .i64 (0)))), (1, 1, (.t 4)), (2, 1, (.c (.bool false))), (3, 1, (.c (.bool false)))], none, false⟩,
 ⟨none, .store 4 (.t 2) (.t 5), none, false⟩])
 .ret))⟩
def n_ops_below : List (List Nat) := []
theorem c_ops_below : compFn Try.prog Try.f83 n_ops_below = some a_ops_below := by kernel_rfl
-- 84 wreckage/ops.read
def a_ops_read : AFunc := ⟨2, [.cell 0 true 4],
 (.seq
 (.ops [⟨(some 0), .alloc [.int .i64 (0), .int .i64 (0), .bool false, .bool false], none, false⟩])
 (.seq
 (.ops [⟨(some 1), .build [.int .i64 (0), .int .i64 (0), .bool false, .bool false] [(0, 1, (.c (.int .i64 (0)))), (1, 1, (.c (.int .i64 (15)))), (2, 1, (.c (.bool true))), (3, 1, (.c (.bool false)))], none, false⟩,
 ⟨none, .store 4 (.t 0) (.t 1), none, false⟩])
 .ret))⟩
def n_ops_read : List (List Nat) := []
theorem c_ops_read : compFn Try.prog Try.f84 n_ops_read = some a_ops_read := by kernel_rfl
-- 85 slices.ContainsFunc[[]int,int]
def a_slices_ContainsFunc_int_int : AFunc := ⟨9, [.tmp 4],
 (.seq
 (.ops [⟨(some 4), .mov (.c (.bool false)), none, false⟩])
 (.seq
 (.ops [⟨(some 5), .mov (.t 0), none, false⟩,
 ⟨(some 6), .mov (.t 1), none, false⟩,
 ⟨(some 7), .call (.c (.fn (.func F_slices_IndexFunc_int_int) [] [])) [(.t 5), (.t 6)], none, false⟩,
 ⟨(some 8), .bin .geq (.t 7) (.c (.int .i64 (0))), none, false⟩,
 ⟨(some 4), .mov (.t 8), none, false⟩])
 .ret))⟩
def n_slices_ContainsFunc_int_int : List (List Nat) := []
theorem c_slices_ContainsFunc_int_int : compFn Try.prog Try.f85 n_slices_ContainsFunc_int_int = some a_slices_ContainsFunc_int_int := by kernel_rfl
-- 86 wreckage/kinds.zero$1
def a_kinds_zero_1 : AFunc := ⟨5, [.tmp 2],
 (.seq
 (.ops [⟨(some 2), .mov (.c (.bool false)), none, false⟩])
 (.seq
 (.ops [⟨(some 3), .mov (.t 0), none, false⟩,
 ⟨(some 4), .bin .neq (.t 3) (.c (.int .i64 (0))), none, false⟩,
 ⟨(some 2), .mov (.t 4), none, false⟩])
 .ret))⟩
def n_kinds_zero_1 : List (List Nat) := []
theorem c_kinds_zero_1 : compFn Try.prog Try.f86 n_kinds_zero_1 = some a_kinds_zero_1 := by kernel_rfl
-- 87 wreckage/layout.lay
def a_layout_lay : AFunc := ⟨68, [.tmp 4, .cell 5 true 2],
 (.seq
 (.ops [⟨(some 4), .mov (.c (.nils)), none, false⟩,
 ⟨(some 5), .alloc [.int .i64 (0), .int .i64 (0)], none, false⟩])
 (.seq
 (.ops [⟨(some 11), .mov (.t 1), none, false⟩,
 ⟨(some 12), .len (.t 11), none, false⟩,
 ⟨(some 13), .make 1 8 [.int .i64 (0)] (.t 12) (.t 12), none, false⟩,
 ⟨(some 14), .build [.int .i64 (0), .int .i64 (0)] [(0, 1, (.c (.int .i64 (0)))), (1, 1, (.c (.int .i64 (1))))], none, false⟩,
 ⟨(some 7), .alloc [.int .i64 (0), .int .i64 (0)], none, false⟩,
 ⟨(some 6), .mov (.t 13), none, false⟩,
 ⟨none, .store 2 (.t 7) (.t 14), none, false⟩])
 (.seq
 (.seq
 (.ops [⟨(some 15), .mov (.t 1), none, false⟩,
 ⟨(some 16), .len (.t 15), none, false⟩,
 ⟨(some 17), .mov (.c (.int .i64 (0))), none, false⟩])
 (.block 0
 (.loop [0, 5, 6, 7, 15, 16, 17]
 (.seq
 (.ops [⟨(some 18), .bin .lss (.t 17) (.t 16), none, false⟩])
 (.seq
 (.cond (.t 18)
 .skip
 (.exit 0))
 (.seq
 (.block 1
 (.seq
 (.ops [⟨(some 19), .mov (.t 17), none, false⟩,
 ⟨(some 20), .iaddr 2 (.t 15) (.t 17), none, false⟩,
 ⟨(some 21), .load true 2 (.t 20), none, false⟩,
 ⟨(some 9), .alloc [.str [], .int .i64 (0)], none, false⟩,
 ⟨(some 8), .mov (.t 19), none, false⟩,
 ⟨none, .store 2 (.t 9) (.t 21), none, false⟩])
 (.seq
 (.ops [⟨(some 22), .mov (.t 0), none, false⟩,
 ⟨(some 23), .faddr 1 (.t 9), none, false⟩,
 ⟨(some 24), .load false 1 (.t 23), none, false⟩,
 ⟨(some 25), .iaddr 2 (.t 22) (.t 24), none, false⟩,
 ⟨(some 26), .load true 2 (.t 25), none, false⟩,
 ⟨(some 10), .alloc [.int .i64 (0), .int .i64 (0)], none, false⟩,
 ⟨none, .store 2 (.t 10) (.t 26), none, false⟩])
 (.seq
 (.ops [⟨(some 27), .mov (.t 6), none, false⟩,
 ⟨(some 28), .mov (.t 8), none, false⟩,
 ⟨(some 29), .faddr 0 (.t 7), none, false⟩,
 ⟨(some 30), .load false 1 (.t 29), none, false⟩,
 ⟨(some 31), .faddr 1 (.t 10), none, false⟩,
 ⟨(some 32), .load false 1 (.t 31), none, false⟩,
 ⟨(some 33), .bin .add (.t 30) (.t 32), none, false⟩,
 ⟨(some 34), .bin .sub (.t 33) (.c (.int .i64 (1))), none, false⟩,
 ⟨(some 35), .faddr 1 (.t 10), none, false⟩,
 ⟨(some 36), .load false 1 (.t 35), none, false⟩,
 ⟨(some 37), .bin .sub (.t 36) (.c (.int .i64 (1))), none, false⟩,
 ⟨(some 38), .bin .andNot (.t 34) (.t 37), none, false⟩,
 ⟨(some 39), .iaddr 1 (.t 27) (.t 28), none, false⟩,
 ⟨none, .store 1 (.t 39) (.t 38), none, false⟩])
 (.draw [⟨(some 40), .mov (.t 6), none, false⟩,
 ⟨(some 41), .mov (.t 8), none, false⟩,
 ⟨(some 42), .iaddr 1 (.t 40) (.t 41), none, false⟩,
 ⟨(some 43), .load false 1 (.t 42), none, false⟩,
 ⟨(some 44), .faddr 0 (.t 10), none, false⟩,
 ⟨(some 45), .load false 1 (.t 44), none, false⟩,
 ⟨(some 46), .bin .add (.t 43) (.t 45), none, false⟩,
 ⟨(some 47), .mn (.c (.int .i64 (1048576))) (.t 46), none, false⟩,
 ⟨(some 48), .faddr 1 (.t 7), none, false⟩,
 ⟨(some 49), .load false 1 (.t 48), none, false⟩,
 ⟨(some 50), .faddr 1 (.t 10), none, false⟩,
 ⟨(some 51), .load false 1 (.t 50), none, false⟩,
 ⟨(some 52), .mx (.t 49) (.t 51), none, false⟩,
 ⟨(some 53), .build [.int .i64 (0), .int .i64 (0)] [(0, 1, (.t 47)), (1, 1, (.t 52))], none, false⟩,
 ⟨none, .store 2 (.t 7) (.t 53), none, false⟩])))))
 (.ops [⟨(some 54), .bin .add (.t 17) (.c (.int .i64 (1))), none, false⟩,
 ⟨(some 17), .mov (.t 54), none, false⟩])))))))
 (.seq
 (.ops [⟨(some 55), .faddr 0 (.t 7), none, false⟩,
 ⟨(some 56), .load false 1 (.t 55), none, false⟩,
 ⟨(some 57), .faddr 1 (.t 7), none, false⟩,
 ⟨(some 58), .load false 1 (.t 57), none, false⟩,
 ⟨(some 59), .bin .add (.t 56) (.t 58), none, false⟩,
 ⟨(some 60), .bin .sub (.t 59) (.c (.int .i64 (1))), none, false⟩,
 ⟨(some 61), .faddr 1 (.t 7), none, false⟩,
 ⟨(some 62), .load false 1 (.t 61), none, false⟩,
 ⟨(some 63), .bin .sub (.t 62) (.c (.int .i64 (1))), none, false⟩,
 ⟨(some 64), .bin .andNot (.t 60) (.t 63), none, false⟩,
 ⟨(some 65), .faddr 0 (.t 7), none, false⟩,
 ⟨none, .store 1 (.t 65) (.t 64), none, false⟩])
 (.seq
 (.draw [⟨(some 66), .mov (.t 6), none, false⟩,
 ⟨(some 67), .load true 2 (.t 7), none, false⟩,
 ⟨(some 4), .mov (.t 66), none, false⟩,
 ⟨none, .store 2 (.t 5) (.t 67), none, false⟩])
 .ret)))))⟩
def n_layout_lay : List (List Nat) := [[0, 5, 6, 7, 15, 16, 17]]
theorem c_layout_lay : compFn Try.prog Try.f87 n_layout_lay = some a_layout_lay := by kernel_rfl
-- 88 slices.IndexFunc[[]wreckage/api.Field,wreckage/api.Field]
def a_slices_IndexFunc_api_Field_api_Field : AFunc := ⟨19, [.tmp 4],
 (.seq
 (.ops [⟨(some 4), .mov (.c (.int .i64 (0))), none, false⟩])
 (.seq
 (.seq
 (.ops [⟨(some 6), .mov (.t 0), none, false⟩,
 ⟨(some 7), .len (.t 6), none, false⟩,
 ⟨(some 8), .mov (.c (.int .i64 (0))), none, false⟩])
 (.block 0
 (.loop [0, 1, 7, 8]
 (.seq
 (.ops [⟨(some 9), .bin .lss (.t 8) (.t 7), none, false⟩])
 (.seq
 (.cond (.t 9)
 .skip
 (.exit 0))
 (.seq
 (.block 1
 (.seq
 (.ops [⟨(some 10), .mov (.t 8), none, false⟩,
 ⟨(some 5), .mov (.t 10), none, false⟩])
 (.seq
 (.ops [⟨(some 11), .mov (.t 1), none, false⟩,
 ⟨(some 12), .mov (.t 0), none, false⟩,
 ⟨(some 13), .mov (.t 5), none, false⟩,
 ⟨(some 14), .iaddr 2 (.t 12) (.t 13), none, false⟩,
 ⟨(some 15), .load true 2 (.t 14), none, false⟩,
 ⟨(some 16), .call (.t 11) [(.t 15)], none, false⟩])
 (.cond (.t 16)
 (.seq
 (.ops [⟨(some 17), .mov (.t 5), none, false⟩,
 ⟨(some 4), .mov (.t 17), none, false⟩])
 .ret)
 .skip))))
 (.ops [⟨(some 18), .bin .add (.t 8) (.c (.int .i64 (1))), none, false⟩,
 ⟨(some 8), .mov (.t 18), none, false⟩])))))))
 (.seq
 (.ops [⟨(some 4), .mov (.c (.int .i64 (-1))), none, false⟩])
 .ret)))⟩
def n_slices_IndexFunc_api_Field_api_Field : List (List Nat) := [[0, 1, 7, 8]]
theorem c_slices_IndexFunc_api_Field_api_Field : compFn Try.prog Try.f88 n_slices_IndexFunc_api_Field_api_Field = some a_slices_IndexFunc_api_Field_api_Field := by kernel_rfl
-- 89 slices.IndexFunc[[]int,int]
def a_slices_IndexFunc_int_int : AFunc := ⟨19, [.tmp 4],
 (.seq
 (.ops [⟨(some 4), .mov (.c (.int .i64 (0))), none, false⟩])
 (.seq
 (.seq
 (.ops [⟨(some 6), .mov (.t 0), none, false⟩,
 ⟨(some 7), .len (.t 6), none, false⟩,
 ⟨(some 8), .mov (.c (.int .i64 (0))), none, false⟩])
 (.block 0
 (.loop [0, 1, 7, 8]
 (.seq
 (.ops [⟨(some 9), .bin .lss (.t 8) (.t 7), none, false⟩])
 (.seq
 (.cond (.t 9)
 .skip
 (.exit 0))
 (.seq
 (.block 1
 (.seq
 (.ops [⟨(some 10), .mov (.t 8), none, false⟩,
 ⟨(some 5), .mov (.t 10), none, false⟩])
 (.seq
 (.ops [⟨(some 11), .mov (.t 1), none, false⟩,
 ⟨(some 12), .mov (.t 0), none, false⟩,
 ⟨(some 13), .mov (.t 5), none, false⟩,
 ⟨(some 14), .iaddr 1 (.t 12) (.t 13), none, false⟩,
 ⟨(some 15), .load false 1 (.t 14), none, false⟩,
 ⟨(some 16), .call (.t 11) [(.t 15)], none, false⟩])
 (.cond (.t 16)
 (.seq
 (.ops [⟨(some 17), .mov (.t 5), none, false⟩,
 ⟨(some 4), .mov (.t 17), none, false⟩])
 .ret)
 .skip))))
 (.ops [⟨(some 18), .bin .add (.t 8) (.c (.int .i64 (1))), none, false⟩,
 ⟨(some 8), .mov (.t 18), none, false⟩])))))))
 (.seq
 (.ops [⟨(some 4), .mov (.c (.int .i64 (-1))), none, false⟩])
 .ret)))⟩
def n_slices_IndexFunc_int_int : List (List Nat) := [[0, 1, 7, 8]]
theorem c_slices_IndexFunc_int_int : compFn Try.prog Try.f89 n_slices_IndexFunc_int_int = some a_slices_IndexFunc_int_int := by kernel_rfl
def tab : Nat → Option AFunc
 | 3 => some a_wreckagelaw30_WalkTells
 | 4 => some a_wreckageref09_Great
 | 5 => some a_walk_Code
 | 6 => some a_wreckageref30_Code
 | 7 => some a_walk_At
 | 8 => some a_wreckageref30_At
 | 9 => some a_walk_Live
 | 10 => some a_wreckageref30_Live
 | 11 => some a_wreckageref04_Great
 | 12 => some a_image_Find
 | 13 => some a_wreckageref09_Find
 | 14 => some a_image_Check
 | 15 => some a_tables_At
 | 16 => some a_wreckageref09_Check
 | 17 => some a_wreckageref08_At
 | 18 => some a_wreckageref09_Where
 | 19 => some a_image_Encode
 | 20 => some a_tables_Check
 | 21 => some a_sort_Search
 | 22 => some a_tables_At_1
 | 23 => some a_wreckageref09_Fine
 | 24 => some a_wreckageref09_Coded
 | 25 => some a_wreckageref08_Check
 | 26 => some a_wreckageref08_Value
 | 27 => some a_image_fine
 | 28 => some a_image_writer_types
 | 29 => some a_image_writer_number
 | 30 => some a_image_writer_text
 | 31 => some a_image_writer_function
 | 32 => some a_tables_counted
 | 33 => some a_tables_fine
 | 34 => some a_wreckageref04_Check
 | 35 => some a_wreckageref05_Sizes
 | 36 => some a_wreckageref09_function
 | 37 => some a_wreckageref09_number
 | 38 => some a_wreckageref09_fields
 | 39 => some a_wreckageref02_Said
 | 40 => some a_wreckageref02_Minimal
 | 41 => some a_wreckageref02_Double
 | 42 => some a_wreckageref06_Coded
 | 43 => some a_wreckageref08_Coded
 | 44 => some a_wreckageref08_Fine
 | 45 => some a_kinds_Check
 | 46 => some a_layout_Size
 | 47 => some a_image_function
 | 48 => some a_image_writer_fields
 | 49 => some a_wire_Vary
 | 50 => some a_wire_Signed
 | 51 => some a_ops_Encode
 | 52 => some a_tables_Encode
 | 53 => some a_wreckageref04_fine
 | 54 => some a_wreckageref04_Widths
 | 55 => some a_wreckageref05_together
 | 56 => some a_wreckageref04_Named
 | 57 => some a_wreckageref04_Fields
 | 58 => some a_wreckageref06_Check
 | 59 => some a_wreckageref06_Shape
 | 60 => some a_wreckageref06_Operands
 | 61 => some a_wreckageref06_Signed
 | 62 => some a_kinds_fine
 | 63 => some a_kinds_widths
 | 64 => some a_layout_asked
 | 65 => some a_kinds_Named
 | 66 => some a_image_named
 | 67 => some a_ops_Check
 | 68 => some a_wire_Vary_1
 | 69 => some a_ops_shape
 | 70 => some a_ops_operands
 | 71 => some a_wreckageref04_Parts
 | 72 => some a_wreckageref05_up
 | 73 => some a_wreckageref04_Letter
 | 74 => some a_wreckageref06_Fits
 | 75 => some a_kinds_fine_1
 | 76 => some a_kinds_zero
 | 77 => some a_layout_extents
 | 78 => some a_slices_ContainsFunc_api_Field_api_Field
 | 79 => some a_image_named_1
 | 80 => some a_ops_shape_1
 | 81 => some a_ops_write
 | 82 => some a_ops_whole
 | 83 => some a_ops_below
 | 84 => some a_ops_read
 | 85 => some a_slices_ContainsFunc_int_int
 | 86 => some a_kinds_zero_1
 | 87 => some a_layout_lay
 | 88 => some a_slices_IndexFunc_api_Field_api_Field
 | 89 => some a_slices_IndexFunc_int_int
 | _ => none
theorem t_wreckagelaw30_WalkTells : tab F_wreckagelaw30_WalkTells = some a_wreckagelaw30_WalkTells := rfl
theorem t_wreckageref09_Great : tab F_wreckageref09_Great = some a_wreckageref09_Great := rfl
theorem t_walk_Code : tab F_walk_Code = some a_walk_Code := rfl
theorem t_wreckageref30_Code : tab F_wreckageref30_Code = some a_wreckageref30_Code := rfl
theorem t_walk_At : tab F_walk_At = some a_walk_At := rfl
theorem t_wreckageref30_At : tab F_wreckageref30_At = some a_wreckageref30_At := rfl
theorem t_walk_Live : tab F_walk_Live = some a_walk_Live := rfl
theorem t_wreckageref30_Live : tab F_wreckageref30_Live = some a_wreckageref30_Live := rfl
theorem t_wreckageref04_Great : tab F_wreckageref04_Great = some a_wreckageref04_Great := rfl
theorem t_image_Find : tab F_image_Find = some a_image_Find := rfl
theorem t_wreckageref09_Find : tab F_wreckageref09_Find = some a_wreckageref09_Find := rfl
theorem t_image_Check : tab F_image_Check = some a_image_Check := rfl
theorem t_tables_At : tab F_tables_At = some a_tables_At := rfl
theorem t_wreckageref09_Check : tab F_wreckageref09_Check = some a_wreckageref09_Check := rfl
theorem t_wreckageref08_At : tab F_wreckageref08_At = some a_wreckageref08_At := rfl
theorem t_wreckageref09_Where : tab F_wreckageref09_Where = some a_wreckageref09_Where := rfl
theorem t_image_Encode : tab F_image_Encode = some a_image_Encode := rfl
theorem t_tables_Check : tab F_tables_Check = some a_tables_Check := rfl
theorem t_sort_Search : tab F_sort_Search = some a_sort_Search := rfl
theorem t_tables_At_1 : tab F_tables_At_1 = some a_tables_At_1 := rfl
theorem t_wreckageref09_Fine : tab F_wreckageref09_Fine = some a_wreckageref09_Fine := rfl
theorem t_wreckageref09_Coded : tab F_wreckageref09_Coded = some a_wreckageref09_Coded := rfl
theorem t_wreckageref08_Check : tab F_wreckageref08_Check = some a_wreckageref08_Check := rfl
theorem t_wreckageref08_Value : tab F_wreckageref08_Value = some a_wreckageref08_Value := rfl
theorem t_image_fine : tab F_image_fine = some a_image_fine := rfl
theorem t_image_writer_types : tab F_image_writer_types = some a_image_writer_types := rfl
theorem t_image_writer_number : tab F_image_writer_number = some a_image_writer_number := rfl
theorem t_image_writer_text : tab F_image_writer_text = some a_image_writer_text := rfl
theorem t_image_writer_function : tab F_image_writer_function = some a_image_writer_function := rfl
theorem t_tables_counted : tab F_tables_counted = some a_tables_counted := rfl
theorem t_tables_fine : tab F_tables_fine = some a_tables_fine := rfl
theorem t_wreckageref04_Check : tab F_wreckageref04_Check = some a_wreckageref04_Check := rfl
theorem t_wreckageref05_Sizes : tab F_wreckageref05_Sizes = some a_wreckageref05_Sizes := rfl
theorem t_wreckageref09_function : tab F_wreckageref09_function = some a_wreckageref09_function := rfl
theorem t_wreckageref09_number : tab F_wreckageref09_number = some a_wreckageref09_number := rfl
theorem t_wreckageref09_fields : tab F_wreckageref09_fields = some a_wreckageref09_fields := rfl
theorem t_wreckageref02_Said : tab F_wreckageref02_Said = some a_wreckageref02_Said := rfl
theorem t_wreckageref02_Minimal : tab F_wreckageref02_Minimal = some a_wreckageref02_Minimal := rfl
theorem t_wreckageref02_Double : tab F_wreckageref02_Double = some a_wreckageref02_Double := rfl
theorem t_wreckageref06_Coded : tab F_wreckageref06_Coded = some a_wreckageref06_Coded := rfl
theorem t_wreckageref08_Coded : tab F_wreckageref08_Coded = some a_wreckageref08_Coded := rfl
theorem t_wreckageref08_Fine : tab F_wreckageref08_Fine = some a_wreckageref08_Fine := rfl
theorem t_kinds_Check : tab F_kinds_Check = some a_kinds_Check := rfl
theorem t_layout_Size : tab F_layout_Size = some a_layout_Size := rfl
theorem t_image_function : tab F_image_function = some a_image_function := rfl
theorem t_image_writer_fields : tab F_image_writer_fields = some a_image_writer_fields := rfl
theorem t_wire_Vary : tab F_wire_Vary = some a_wire_Vary := rfl
theorem t_wire_Signed : tab F_wire_Signed = some a_wire_Signed := rfl
theorem t_ops_Encode : tab F_ops_Encode = some a_ops_Encode := rfl
theorem t_tables_Encode : tab F_tables_Encode = some a_tables_Encode := rfl
theorem t_wreckageref04_fine : tab F_wreckageref04_fine = some a_wreckageref04_fine := rfl
theorem t_wreckageref04_Widths : tab F_wreckageref04_Widths = some a_wreckageref04_Widths := rfl
theorem t_wreckageref05_together : tab F_wreckageref05_together = some a_wreckageref05_together := rfl
theorem t_wreckageref04_Named : tab F_wreckageref04_Named = some a_wreckageref04_Named := rfl
theorem t_wreckageref04_Fields : tab F_wreckageref04_Fields = some a_wreckageref04_Fields := rfl
theorem t_wreckageref06_Check : tab F_wreckageref06_Check = some a_wreckageref06_Check := rfl
theorem t_wreckageref06_Shape : tab F_wreckageref06_Shape = some a_wreckageref06_Shape := rfl
theorem t_wreckageref06_Operands : tab F_wreckageref06_Operands = some a_wreckageref06_Operands := rfl
theorem t_wreckageref06_Signed : tab F_wreckageref06_Signed = some a_wreckageref06_Signed := rfl
theorem t_kinds_fine : tab F_kinds_fine = some a_kinds_fine := rfl
theorem t_kinds_widths : tab F_kinds_widths = some a_kinds_widths := rfl
theorem t_layout_asked : tab F_layout_asked = some a_layout_asked := rfl
theorem t_kinds_Named : tab F_kinds_Named = some a_kinds_Named := rfl
theorem t_image_named : tab F_image_named = some a_image_named := rfl
theorem t_ops_Check : tab F_ops_Check = some a_ops_Check := rfl
theorem t_wire_Vary_1 : tab F_wire_Vary_1 = some a_wire_Vary_1 := rfl
theorem t_ops_shape : tab F_ops_shape = some a_ops_shape := rfl
theorem t_ops_operands : tab F_ops_operands = some a_ops_operands := rfl
theorem t_wreckageref04_Parts : tab F_wreckageref04_Parts = some a_wreckageref04_Parts := rfl
theorem t_wreckageref05_up : tab F_wreckageref05_up = some a_wreckageref05_up := rfl
theorem t_wreckageref04_Letter : tab F_wreckageref04_Letter = some a_wreckageref04_Letter := rfl
theorem t_wreckageref06_Fits : tab F_wreckageref06_Fits = some a_wreckageref06_Fits := rfl
theorem t_kinds_fine_1 : tab F_kinds_fine_1 = some a_kinds_fine_1 := rfl
theorem t_kinds_zero : tab F_kinds_zero = some a_kinds_zero := rfl
theorem t_layout_extents : tab F_layout_extents = some a_layout_extents := rfl
theorem t_slices_ContainsFunc_api_Field_api_Field : tab F_slices_ContainsFunc_api_Field_api_Field = some a_slices_ContainsFunc_api_Field_api_Field := rfl
theorem t_image_named_1 : tab F_image_named_1 = some a_image_named_1 := rfl
theorem t_ops_shape_1 : tab F_ops_shape_1 = some a_ops_shape_1 := rfl
theorem t_ops_write : tab F_ops_write = some a_ops_write := rfl
theorem t_ops_whole : tab F_ops_whole = some a_ops_whole := rfl
theorem t_ops_below : tab F_ops_below = some a_ops_below := rfl
theorem t_ops_read : tab F_ops_read = some a_ops_read := rfl
theorem t_slices_ContainsFunc_int_int : tab F_slices_ContainsFunc_int_int = some a_slices_ContainsFunc_int_int := rfl
theorem t_kinds_zero_1 : tab F_kinds_zero_1 = some a_kinds_zero_1 := rfl
theorem t_layout_lay : tab F_layout_lay = some a_layout_lay := rfl
theorem t_slices_IndexFunc_api_Field_api_Field : tab F_slices_IndexFunc_api_Field_api_Field = some a_slices_IndexFunc_api_Field_api_Field := rfl
theorem t_slices_IndexFunc_int_int : tab F_slices_IndexFunc_int_int = some a_slices_IndexFunc_int_int := rfl
theorem tabOk : TabOk Try.prog tab := by
 intro f afn h
 unfold tab at h
 split at h
 · injection h with h; subst h; exact ⟨Try.f3, n_wreckagelaw30_WalkTells, Try.func3, c_wreckagelaw30_WalkTells⟩
 · injection h with h; subst h; exact ⟨Try.f4, n_wreckageref09_Great, Try.func4, c_wreckageref09_Great⟩
 · injection h with h; subst h; exact ⟨Try.f5, n_walk_Code, Try.func5, c_walk_Code⟩
 · injection h with h; subst h; exact ⟨Try.f6, n_wreckageref30_Code, Try.func6, c_wreckageref30_Code⟩
 · injection h with h; subst h; exact ⟨Try.f7, n_walk_At, Try.func7, c_walk_At⟩
 · injection h with h; subst h; exact ⟨Try.f8, n_wreckageref30_At, Try.func8, c_wreckageref30_At⟩
 · injection h with h; subst h; exact ⟨Try.f9, n_walk_Live, Try.func9, c_walk_Live⟩
 · injection h with h; subst h; exact ⟨Try.f10, n_wreckageref30_Live, Try.func10, c_wreckageref30_Live⟩
 · injection h with h; subst h; exact ⟨Try.f11, n_wreckageref04_Great, Try.func11, c_wreckageref04_Great⟩
 · injection h with h; subst h; exact ⟨Try.f12, n_image_Find, Try.func12, c_image_Find⟩
 · injection h with h; subst h; exact ⟨Try.f13, n_wreckageref09_Find, Try.func13, c_wreckageref09_Find⟩
 · injection h with h; subst h; exact ⟨Try.f14, n_image_Check, Try.func14, c_image_Check⟩
 · injection h with h; subst h; exact ⟨Try.f15, n_tables_At, Try.func15, c_tables_At⟩
 · injection h with h; subst h; exact ⟨Try.f16, n_wreckageref09_Check, Try.func16, c_wreckageref09_Check⟩
 · injection h with h; subst h; exact ⟨Try.f17, n_wreckageref08_At, Try.func17, c_wreckageref08_At⟩
 · injection h with h; subst h; exact ⟨Try.f18, n_wreckageref09_Where, Try.func18, c_wreckageref09_Where⟩
 · injection h with h; subst h; exact ⟨Try.f19, n_image_Encode, Try.func19, c_image_Encode⟩
 · injection h with h; subst h; exact ⟨Try.f20, n_tables_Check, Try.func20, c_tables_Check⟩
 · injection h with h; subst h; exact ⟨Try.f21, n_sort_Search, Try.func21, c_sort_Search⟩
 · injection h with h; subst h; exact ⟨Try.f22, n_tables_At_1, Try.func22, c_tables_At_1⟩
 · injection h with h; subst h; exact ⟨Try.f23, n_wreckageref09_Fine, Try.func23, c_wreckageref09_Fine⟩
 · injection h with h; subst h; exact ⟨Try.f24, n_wreckageref09_Coded, Try.func24, c_wreckageref09_Coded⟩
 · injection h with h; subst h; exact ⟨Try.f25, n_wreckageref08_Check, Try.func25, c_wreckageref08_Check⟩
 · injection h with h; subst h; exact ⟨Try.f26, n_wreckageref08_Value, Try.func26, c_wreckageref08_Value⟩
 · injection h with h; subst h; exact ⟨Try.f27, n_image_fine, Try.func27, c_image_fine⟩
 · injection h with h; subst h; exact ⟨Try.f28, n_image_writer_types, Try.func28, c_image_writer_types⟩
 · injection h with h; subst h; exact ⟨Try.f29, n_image_writer_number, Try.func29, c_image_writer_number⟩
 · injection h with h; subst h; exact ⟨Try.f30, n_image_writer_text, Try.func30, c_image_writer_text⟩
 · injection h with h; subst h; exact ⟨Try.f31, n_image_writer_function, Try.func31, c_image_writer_function⟩
 · injection h with h; subst h; exact ⟨Try.f32, n_tables_counted, Try.func32, c_tables_counted⟩
 · injection h with h; subst h; exact ⟨Try.f33, n_tables_fine, Try.func33, c_tables_fine⟩
 · injection h with h; subst h; exact ⟨Try.f34, n_wreckageref04_Check, Try.func34, c_wreckageref04_Check⟩
 · injection h with h; subst h; exact ⟨Try.f35, n_wreckageref05_Sizes, Try.func35, c_wreckageref05_Sizes⟩
 · injection h with h; subst h; exact ⟨Try.f36, n_wreckageref09_function, Try.func36, c_wreckageref09_function⟩
 · injection h with h; subst h; exact ⟨Try.f37, n_wreckageref09_number, Try.func37, c_wreckageref09_number⟩
 · injection h with h; subst h; exact ⟨Try.f38, n_wreckageref09_fields, Try.func38, c_wreckageref09_fields⟩
 · injection h with h; subst h; exact ⟨Try.f39, n_wreckageref02_Said, Try.func39, c_wreckageref02_Said⟩
 · injection h with h; subst h; exact ⟨Try.f40, n_wreckageref02_Minimal, Try.func40, c_wreckageref02_Minimal⟩
 · injection h with h; subst h; exact ⟨Try.f41, n_wreckageref02_Double, Try.func41, c_wreckageref02_Double⟩
 · injection h with h; subst h; exact ⟨Try.f42, n_wreckageref06_Coded, Try.func42, c_wreckageref06_Coded⟩
 · injection h with h; subst h; exact ⟨Try.f43, n_wreckageref08_Coded, Try.func43, c_wreckageref08_Coded⟩
 · injection h with h; subst h; exact ⟨Try.f44, n_wreckageref08_Fine, Try.func44, c_wreckageref08_Fine⟩
 · injection h with h; subst h; exact ⟨Try.f45, n_kinds_Check, Try.func45, c_kinds_Check⟩
 · injection h with h; subst h; exact ⟨Try.f46, n_layout_Size, Try.func46, c_layout_Size⟩
 · injection h with h; subst h; exact ⟨Try.f47, n_image_function, Try.func47, c_image_function⟩
 · injection h with h; subst h; exact ⟨Try.f48, n_image_writer_fields, Try.func48, c_image_writer_fields⟩
 · injection h with h; subst h; exact ⟨Try.f49, n_wire_Vary, Try.func49, c_wire_Vary⟩
 · injection h with h; subst h; exact ⟨Try.f50, n_wire_Signed, Try.func50, c_wire_Signed⟩
 · injection h with h; subst h; exact ⟨Try.f51, n_ops_Encode, Try.func51, c_ops_Encode⟩
 · injection h with h; subst h; exact ⟨Try.f52, n_tables_Encode, Try.func52, c_tables_Encode⟩
 · injection h with h; subst h; exact ⟨Try.f53, n_wreckageref04_fine, Try.func53, c_wreckageref04_fine⟩
 · injection h with h; subst h; exact ⟨Try.f54, n_wreckageref04_Widths, Try.func54, c_wreckageref04_Widths⟩
 · injection h with h; subst h; exact ⟨Try.f55, n_wreckageref05_together, Try.func55, c_wreckageref05_together⟩
 · injection h with h; subst h; exact ⟨Try.f56, n_wreckageref04_Named, Try.func56, c_wreckageref04_Named⟩
 · injection h with h; subst h; exact ⟨Try.f57, n_wreckageref04_Fields, Try.func57, c_wreckageref04_Fields⟩
 · injection h with h; subst h; exact ⟨Try.f58, n_wreckageref06_Check, Try.func58, c_wreckageref06_Check⟩
 · injection h with h; subst h; exact ⟨Try.f59, n_wreckageref06_Shape, Try.func59, c_wreckageref06_Shape⟩
 · injection h with h; subst h; exact ⟨Try.f60, n_wreckageref06_Operands, Try.func60, c_wreckageref06_Operands⟩
 · injection h with h; subst h; exact ⟨Try.f61, n_wreckageref06_Signed, Try.func61, c_wreckageref06_Signed⟩
 · injection h with h; subst h; exact ⟨Try.f62, n_kinds_fine, Try.func62, c_kinds_fine⟩
 · injection h with h; subst h; exact ⟨Try.f63, n_kinds_widths, Try.func63, c_kinds_widths⟩
 · injection h with h; subst h; exact ⟨Try.f64, n_layout_asked, Try.func64, c_layout_asked⟩
 · injection h with h; subst h; exact ⟨Try.f65, n_kinds_Named, Try.func65, c_kinds_Named⟩
 · injection h with h; subst h; exact ⟨Try.f66, n_image_named, Try.func66, c_image_named⟩
 · injection h with h; subst h; exact ⟨Try.f67, n_ops_Check, Try.func67, c_ops_Check⟩
 · injection h with h; subst h; exact ⟨Try.f68, n_wire_Vary_1, Try.func68, c_wire_Vary_1⟩
 · injection h with h; subst h; exact ⟨Try.f69, n_ops_shape, Try.func69, c_ops_shape⟩
 · injection h with h; subst h; exact ⟨Try.f70, n_ops_operands, Try.func70, c_ops_operands⟩
 · injection h with h; subst h; exact ⟨Try.f71, n_wreckageref04_Parts, Try.func71, c_wreckageref04_Parts⟩
 · injection h with h; subst h; exact ⟨Try.f72, n_wreckageref05_up, Try.func72, c_wreckageref05_up⟩
 · injection h with h; subst h; exact ⟨Try.f73, n_wreckageref04_Letter, Try.func73, c_wreckageref04_Letter⟩
 · injection h with h; subst h; exact ⟨Try.f74, n_wreckageref06_Fits, Try.func74, c_wreckageref06_Fits⟩
 · injection h with h; subst h; exact ⟨Try.f75, n_kinds_fine_1, Try.func75, c_kinds_fine_1⟩
 · injection h with h; subst h; exact ⟨Try.f76, n_kinds_zero, Try.func76, c_kinds_zero⟩
 · injection h with h; subst h; exact ⟨Try.f77, n_layout_extents, Try.func77, c_layout_extents⟩
 · injection h with h; subst h; exact ⟨Try.f78, n_slices_ContainsFunc_api_Field_api_Field, Try.func78, c_slices_ContainsFunc_api_Field_api_Field⟩
 · injection h with h; subst h; exact ⟨Try.f79, n_image_named_1, Try.func79, c_image_named_1⟩
 · injection h with h; subst h; exact ⟨Try.f80, n_ops_shape_1, Try.func80, c_ops_shape_1⟩
 · injection h with h; subst h; exact ⟨Try.f81, n_ops_write, Try.func81, c_ops_write⟩
 · injection h with h; subst h; exact ⟨Try.f82, n_ops_whole, Try.func82, c_ops_whole⟩
 · injection h with h; subst h; exact ⟨Try.f83, n_ops_below, Try.func83, c_ops_below⟩
 · injection h with h; subst h; exact ⟨Try.f84, n_ops_read, Try.func84, c_ops_read⟩
 · injection h with h; subst h; exact ⟨Try.f85, n_slices_ContainsFunc_int_int, Try.func85, c_slices_ContainsFunc_int_int⟩
 · injection h with h; subst h; exact ⟨Try.f86, n_kinds_zero_1, Try.func86, c_kinds_zero_1⟩
 · injection h with h; subst h; exact ⟨Try.f87, n_layout_lay, Try.func87, c_layout_lay⟩
 · injection h with h; subst h; exact ⟨Try.f88, n_slices_IndexFunc_api_Field_api_Field, Try.func88, c_slices_IndexFunc_api_Field_api_Field⟩
 · injection h with h; subst h; exact ⟨Try.f89, n_slices_IndexFunc_int_int, Try.func89, c_slices_IndexFunc_int_int⟩
 · cases h
end Go.Proofs.W
