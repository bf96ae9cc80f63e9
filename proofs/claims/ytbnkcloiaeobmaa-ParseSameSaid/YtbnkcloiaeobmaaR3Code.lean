/-
  /opt/kit/tree/Derived/Test/R3Code.lean: the functions, compiled (printed by program).
-/
import Derived.Test.YtbnkcloiaeobmaaVsx
import Derived.Test.YtbnkcloiaeobmaaProg
import Derived.KernelRfl
namespace Go.Proofs.W
open Go.Vs
set_option maxRecDepth 100000
def F_wreckagelaw29_ParseSame : Nat := 3
def F_wreckageref28_Large : Nat := 4
def F_parse_Same : Nat := 5
def F_wreckageref28_Same : Nat := 6
def F_wreckageref28_Great : Nat := 7
def F_wreckageref27_Great : Nat := 8
def F_wreckageref09_Great : Nat := 9
def F_slices_EqualFunc_api_Type_api_Type_api_Type_api_Type : Nat := 10
def F_parse_sameType : Nat := 11
def F_slices_Equal_string_string : Nat := 12
def F_slices_EqualFunc_api_Func_api_Func_api_Func_api_Func : Nat := 13
def F_parse_sameFunc : Nat := 14
def F_parse_sameRegion : Nat := 15
def F_slices_EqualFunc_api_Region_api_Region_api_Region_api_Region : Nat := 16
def F_slices_Equal_api_Routine_api_Routine : Nat := 17
def F_slices_EqualFunc_uint64_uint64_uint64_uint64 : Nat := 18
def F_parse_sameChain : Nat := 19
def F_wreckageref09_Same : Nat := 20
def F_wreckageref26_SameRegion : Nat := 21
def F_wreckageref26_SameRegions : Nat := 22
def F_wreckageref27_SameHeads : Nat := 23
def F_wreckageref27_SameChains : Nat := 24
def F_wreckageref26_Great : Nat := 25
def F_wreckageref04_Great : Nat := 26
def F_slices_Equal_api_Field_api_Field : Nat := 27
def F_slices_Equal_api_Instr_api_Instr : Nat := 28
def F_slices_Equal_api_Run_api_Run : Nat := 29
def F_slices_Equal_byte_byte : Nat := 30
def F_slices_Equal_uint64_uint64 : Nat := 31
def F_wreckageref04_SameTable : Nat := 32
def F_wreckageref09_SameFunc : Nat := 33
def F_wreckageref27_SameList : Nat := 34
def F_wreckageref04_SameFields : Nat := 35
def F_wreckageref07_Same : Nat := 36
def F_wreckageref08_Same : Nat := 37
-- 3 wreckage/wreckagelaw29.ParseSame
def a_wreckagelaw29_ParseSame : AFunc := ⟨32, [.tmp 4],
 (.seq
  (.ops [⟨(some 2), .box 12 (.t 0), none, false⟩,
    ⟨(some 3), .box 12 (.t 1), none, false⟩,
    ⟨(some 4), .mov (.c (.bool false)), none, false⟩])
  (.seq
   (.seq
    (.ops [⟨(some 5), .load true 12 (.t 2), none, false⟩,
      ⟨(some 6), .call (.c (.fn (.func F_wreckageref28_Large) [] [])) [(.t 5)], none, false⟩,
      ⟨(some 7), .mov (.t 6), none, false⟩,
      ⟨(some 8), .load true 12 (.t 3), (some (7, false)), false⟩,
      ⟨(some 9), .call (.c (.fn (.func F_wreckageref28_Large) [] [])) [(.t 8)], (some (7, false)), false⟩,
      ⟨(some 10), .pick (.t 7) (.c (.bool true)) (.t 9), none, false⟩])
    (.cond (.t 10)
     (.seq
      (.ops [⟨(some 4), .mov (.c (.bool true)), none, false⟩])
      .ret)
     .skip))
   (.seq
    (.draw [⟨(some 11), .load true 12 (.t 2), none, false⟩,
      ⟨(some 12), .load true 12 (.t 3), none, false⟩,
      ⟨(some 13), .call (.c (.fn (.func F_parse_Same) [] [])) [(.t 11), (.t 12)], none, false⟩,
      ⟨(some 14), .load true 12 (.t 2), none, true⟩,
      ⟨(some 15), .load true 12 (.t 3), none, true⟩,
      ⟨(some 16), .call (.c (.fn (.func F_wreckageref28_Same) [] [])) [(.t 14), (.t 15)], none, false⟩,
      ⟨(some 17), .beq false (.t 13) (.t 16), none, false⟩,
      ⟨(some 18), .mov (.t 17), none, false⟩,
      ⟨(some 19), .load true 12 (.t 2), (some (18, true)), false⟩,
      ⟨(some 20), .load true 12 (.t 2), (some (18, true)), false⟩,
      ⟨(some 21), .call (.c (.fn (.func F_parse_Same) [] [])) [(.t 19), (.t 20)], (some (18, true)), false⟩,
      ⟨(some 22), .pick (.t 18) (.t 21) (.c (.bool false)), none, false⟩,
      ⟨(some 23), .mov (.t 22), none, false⟩,
      ⟨(some 24), .load true 12 (.t 3), (some (23, true)), false⟩,
      ⟨(some 25), .load true 12 (.t 2), (some (23, true)), false⟩,
      ⟨(some 26), .call (.c (.fn (.func F_parse_Same) [] [])) [(.t 24), (.t 25)], (some (23, true)), false⟩,
      ⟨(some 27), .load true 12 (.t 2), (some (23, true)), true⟩,
      ⟨(some 28), .load true 12 (.t 3), (some (23, true)), true⟩,
      ⟨(some 29), .call (.c (.fn (.func F_parse_Same) [] [])) [(.t 27), (.t 28)], (some (23, true)), false⟩,
      ⟨(some 30), .beq false (.t 26) (.t 29), (some (23, true)), false⟩,
      ⟨(some 31), .pick (.t 23) (.t 30) (.c (.bool false)), none, false⟩,
      ⟨(some 4), .mov (.t 31), none, false⟩])
    .ret)))⟩
def n_wreckagelaw29_ParseSame : List (List Nat) := []
theorem c_wreckagelaw29_ParseSame : compFn Try.prog Try.f3 n_wreckagelaw29_ParseSame = some a_wreckagelaw29_ParseSame := by kernel_rfl
-- 4 wreckage/wreckageref28.Large
def a_wreckageref28_Large : AFunc := ⟨25, [.tmp 2],
 (.seq
  (.ops [⟨(some 1), .box 12 (.t 0), none, false⟩,
    ⟨(some 2), .mov (.c (.bool false)), none, false⟩])
  (.seq
   (.ops [⟨(some 3), .faddr 6 (.t 1), none, false⟩,
     ⟨(some 4), .load true 2 (.t 3), none, false⟩,
     ⟨(some 5), .faddr 8 (.t 1), none, false⟩,
     ⟨(some 6), .load false 1 (.t 5), none, false⟩,
     ⟨(some 7), .faddr 9 (.t 1), none, false⟩,
     ⟨(some 8), .load false 1 (.t 7), none, false⟩,
     ⟨(some 9), .call (.c (.fn (.func F_wreckageref28_Great) [] [])) [(.t 4), (.t 6), (.t 8)], none, false⟩,
     ⟨(some 10), .mov (.t 9), none, false⟩,
     ⟨(some 11), .faddr 10 (.t 1), (some (10, false)), false⟩,
     ⟨(some 12), .load false 1 (.t 11), (some (10, false)), false⟩,
     ⟨(some 13), .call (.c (.fn (.func F_wreckageref27_Great) [] [])) [(.t 12)], (some (10, false)), false⟩,
     ⟨(some 14), .pick (.t 10) (.c (.bool true)) (.t 13), none, false⟩,
     ⟨(some 15), .mov (.t 14), none, false⟩,
     ⟨(some 16), .faddr 11 (.t 1), (some (15, false)), false⟩,
     ⟨(some 17), .load false 1 (.t 16), (some (15, false)), false⟩,
     ⟨(some 18), .call (.c (.fn (.func F_wreckageref27_Great) [] [])) [(.t 17)], (some (15, false)), false⟩,
     ⟨(some 19), .pick (.t 15) (.c (.bool true)) (.t 18), none, false⟩,
     ⟨(some 20), .mov (.t 19), none, false⟩,
     ⟨(some 21), .faddr 0 (.t 1), (some (20, false)), false⟩,
     ⟨(some 22), .load true 3 (.t 21), (some (20, false)), false⟩,
     ⟨(some 23), .call (.c (.fn (.func F_wreckageref09_Great) [] [])) [(.t 22)], (some (20, false)), false⟩,
     ⟨(some 24), .pick (.t 20) (.c (.bool true)) (.t 23), none, false⟩,
     ⟨(some 2), .mov (.t 24), none, false⟩])
   .ret))⟩
def n_wreckageref28_Large : List (List Nat) := []
theorem c_wreckageref28_Large : compFn Try.prog Try.f4 n_wreckageref28_Large = some a_wreckageref28_Large := by kernel_rfl
-- 5 wreckage/parse.Same
def a_parse_Same : AFunc := ⟨74, [.tmp 4],
 (.seq
  (.ops [⟨(some 2), .box 12 (.t 0), none, false⟩,
    ⟨(some 3), .box 12 (.t 1), none, false⟩,
    ⟨(some 4), .mov (.c (.bool false)), none, false⟩])
  (.seq
   (.seq
    (.ops [⟨(some 5), .faddr 0 (.t 2), none, false⟩,
      ⟨(some 6), .faddr 0 (.t 5), none, false⟩,
      ⟨(some 7), .load false 1 (.t 6), none, false⟩,
      ⟨(some 8), .faddr 0 (.t 3), none, false⟩,
      ⟨(some 9), .faddr 0 (.t 8), none, false⟩,
      ⟨(some 10), .load false 1 (.t 9), none, false⟩,
      ⟨(some 11), .call (.c (.fn (.func F_slices_EqualFunc_api_Type_api_Type_api_Type_api_Type) [] [])) [(.t 7), (.t 10), (.c (.fn (.func F_parse_sameType) [] []))], none, false⟩,
      ⟨(some 12), .un .not (.t 11), none, false⟩,
      ⟨(some 13), .mov (.t 12), none, false⟩,
      ⟨(some 14), .faddr 0 (.t 2), (some (13, false)), false⟩,
      ⟨(some 15), .faddr 1 (.t 14), (some (13, false)), false⟩,
      ⟨(some 16), .load false 1 (.t 15), (some (13, false)), false⟩,
      ⟨(some 17), .faddr 0 (.t 3), (some (13, false)), false⟩,
      ⟨(some 18), .faddr 1 (.t 17), (some (13, false)), false⟩,
      ⟨(some 19), .load false 1 (.t 18), (some (13, false)), false⟩,
      ⟨(some 20), .call (.c (.fn (.func F_slices_Equal_string_string) [] [])) [(.t 16), (.t 19)], (some (13, false)), false⟩,
      ⟨(some 21), .un .not (.t 20), (some (13, false)), false⟩,
      ⟨(some 22), .pick (.t 13) (.c (.bool true)) (.t 21), none, false⟩,
      ⟨(some 23), .mov (.t 22), none, false⟩,
      ⟨(some 24), .faddr 0 (.t 2), (some (23, false)), false⟩,
      ⟨(some 25), .faddr 2 (.t 24), (some (23, false)), false⟩,
      ⟨(some 26), .load false 1 (.t 25), (some (23, false)), false⟩,
      ⟨(some 27), .faddr 0 (.t 3), (some (23, false)), false⟩,
      ⟨(some 28), .faddr 2 (.t 27), (some (23, false)), false⟩,
      ⟨(some 29), .load false 1 (.t 28), (some (23, false)), false⟩,
      ⟨(some 30), .call (.c (.fn (.func F_slices_EqualFunc_api_Func_api_Func_api_Func_api_Func) [] [])) [(.t 26), (.t 29), (.c (.fn (.func F_parse_sameFunc) [] []))], (some (23, false)), false⟩,
      ⟨(some 31), .un .not (.t 30), (some (23, false)), false⟩,
      ⟨(some 32), .pick (.t 23) (.c (.bool true)) (.t 31), none, false⟩])
    (.cond (.t 32)
     (.seq
      (.ops [⟨(some 4), .mov (.c (.bool false)), none, false⟩])
      .ret)
     .skip))
   (.seq
    (.seq
     (.ops [⟨(some 33), .faddr 3 (.t 2), none, false⟩,
       ⟨(some 34), .load true 3 (.t 33), none, false⟩,
       ⟨(some 35), .faddr 3 (.t 3), none, false⟩,
       ⟨(some 36), .load true 3 (.t 35), none, false⟩,
       ⟨(some 37), .ext (.eqA true 3 [(0, 1), (1, 1), (2, 1)] (.t 34) (.t 36)), none, false⟩,
       ⟨(some 38), .mov (.t 37), none, false⟩,
       ⟨(some 39), .faddr 6 (.t 2), (some (38, false)), false⟩,
       ⟨(some 40), .load true 2 (.t 39), (some (38, false)), false⟩,
       ⟨(some 41), .faddr 6 (.t 3), (some (38, false)), false⟩,
       ⟨(some 42), .load true 2 (.t 41), (some (38, false)), false⟩,
       ⟨(some 43), .call (.c (.fn (.func F_parse_sameRegion) [] [])) [(.t 40), (.t 42)], (some (38, false)), false⟩,
       ⟨(some 44), .un .not (.t 43), (some (38, false)), false⟩,
       ⟨(some 45), .pick (.t 38) (.c (.bool true)) (.t 44), none, false⟩,
       ⟨(some 46), .mov (.t 45), none, false⟩,
       ⟨(some 47), .faddr 8 (.t 2), (some (46, false)), false⟩,
       ⟨(some 48), .load false 1 (.t 47), (some (46, false)), false⟩,
       ⟨(some 49), .faddr 8 (.t 3), (some (46, false)), false⟩,
       ⟨(some 50), .load false 1 (.t 49), (some (46, false)), false⟩,
       ⟨(some 51), .call (.c (.fn (.func F_slices_EqualFunc_api_Region_api_Region_api_Region_api_Region) [] [])) [(.t 48), (.t 50), (.c (.fn (.func F_parse_sameRegion) [] []))], (some (46, false)), false⟩,
       ⟨(some 52), .un .not (.t 51), (some (46, false)), false⟩,
       ⟨(some 53), .pick (.t 46) (.c (.bool true)) (.t 52), none, false⟩,
       ⟨(some 54), .mov (.t 53), none, false⟩,
       ⟨(some 55), .faddr 9 (.t 2), (some (54, false)), false⟩,
       ⟨(some 56), .load false 1 (.t 55), (some (54, false)), false⟩,
       ⟨(some 57), .faddr 9 (.t 3), (some (54, false)), false⟩,
       ⟨(some 58), .load false 1 (.t 57), (some (54, false)), false⟩,
       ⟨(some 59), .call (.c (.fn (.func F_slices_Equal_api_Routine_api_Routine) [] [])) [(.t 56), (.t 58)], (some (54, false)), false⟩,
       ⟨(some 60), .un .not (.t 59), (some (54, false)), false⟩,
       ⟨(some 61), .pick (.t 54) (.c (.bool true)) (.t 60), none, false⟩])
     (.cond (.t 61)
      (.seq
       (.ops [⟨(some 4), .mov (.c (.bool false)), none, false⟩])
       .ret)
      .skip))
    (.seq
     (.ops [⟨(some 62), .faddr 10 (.t 2), none, false⟩,
       ⟨(some 63), .load false 1 (.t 62), none, false⟩,
       ⟨(some 64), .faddr 10 (.t 3), none, false⟩,
       ⟨(some 65), .load false 1 (.t 64), none, false⟩,
       ⟨(some 66), .call (.c (.fn (.func F_slices_EqualFunc_uint64_uint64_uint64_uint64) [] [])) [(.t 63), (.t 65), (.c (.fn (.func F_parse_sameChain) [] []))], none, false⟩,
       ⟨(some 67), .mov (.t 66), none, false⟩,
       ⟨(some 68), .faddr 11 (.t 2), (some (67, true)), false⟩,
       ⟨(some 69), .load false 1 (.t 68), (some (67, true)), false⟩,
       ⟨(some 70), .faddr 11 (.t 3), (some (67, true)), false⟩,
       ⟨(some 71), .load false 1 (.t 70), (some (67, true)), false⟩,
       ⟨(some 72), .call (.c (.fn (.func F_slices_EqualFunc_uint64_uint64_uint64_uint64) [] [])) [(.t 69), (.t 71), (.c (.fn (.func F_parse_sameChain) [] []))], (some (67, true)), false⟩,
       ⟨(some 73), .pick (.t 67) (.t 72) (.c (.bool false)), none, false⟩,
       ⟨(some 4), .mov (.t 73), none, false⟩])
     .ret))))⟩
def n_parse_Same : List (List Nat) := []
theorem c_parse_Same : compFn Try.prog Try.f5 n_parse_Same = some a_parse_Same := by kernel_rfl
-- 6 wreckage/wreckageref28.Same
def a_wreckageref28_Same : AFunc := ⟨52, [.tmp 4],
 (.seq
  (.ops [⟨(some 2), .box 12 (.t 0), none, false⟩,
    ⟨(some 3), .box 12 (.t 1), none, false⟩,
    ⟨(some 4), .mov (.c (.bool false)), none, false⟩])
  (.seq
   (.ops [⟨(some 5), .faddr 0 (.t 2), none, false⟩,
     ⟨(some 6), .load true 3 (.t 5), none, false⟩,
     ⟨(some 7), .faddr 0 (.t 3), none, false⟩,
     ⟨(some 8), .load true 3 (.t 7), none, false⟩,
     ⟨(some 9), .call (.c (.fn (.func F_wreckageref09_Same) [] [])) [(.t 6), (.t 8)], none, false⟩,
     ⟨(some 10), .mov (.t 9), none, false⟩,
     ⟨(some 11), .faddr 3 (.t 2), (some (10, true)), false⟩,
     ⟨(some 12), .load true 3 (.t 11), (some (10, true)), false⟩,
     ⟨(some 13), .faddr 3 (.t 3), (some (10, true)), false⟩,
     ⟨(some 14), .load true 3 (.t 13), (some (10, true)), false⟩,
     ⟨(some 15), .ext (.eqA false 3 [(0, 1), (1, 1), (2, 1)] (.t 12) (.t 14)), (some (10, true)), false⟩,
     ⟨(some 16), .pick (.t 10) (.t 15) (.c (.bool false)), none, false⟩,
     ⟨(some 17), .mov (.t 16), none, false⟩,
     ⟨(some 18), .faddr 6 (.t 2), (some (17, true)), false⟩,
     ⟨(some 19), .load true 2 (.t 18), (some (17, true)), false⟩,
     ⟨(some 20), .faddr 6 (.t 3), (some (17, true)), false⟩,
     ⟨(some 21), .load true 2 (.t 20), (some (17, true)), false⟩,
     ⟨(some 22), .call (.c (.fn (.func F_wreckageref26_SameRegion) [] [])) [(.t 19), (.t 21)], (some (17, true)), false⟩,
     ⟨(some 23), .pick (.t 17) (.t 22) (.c (.bool false)), none, false⟩,
     ⟨(some 24), .mov (.t 23), none, false⟩,
     ⟨(some 25), .faddr 8 (.t 2), (some (24, true)), false⟩,
     ⟨(some 26), .load false 1 (.t 25), (some (24, true)), false⟩,
     ⟨(some 27), .faddr 8 (.t 3), (some (24, true)), false⟩,
     ⟨(some 28), .load false 1 (.t 27), (some (24, true)), false⟩,
     ⟨(some 29), .call (.c (.fn (.func F_wreckageref26_SameRegions) [] [])) [(.t 26), (.t 28)], (some (24, true)), false⟩,
     ⟨(some 30), .pick (.t 24) (.t 29) (.c (.bool false)), none, false⟩,
     ⟨(some 31), .mov (.t 30), none, false⟩,
     ⟨(some 32), .faddr 9 (.t 2), (some (31, true)), false⟩,
     ⟨(some 33), .load false 1 (.t 32), (some (31, true)), false⟩,
     ⟨(some 34), .faddr 9 (.t 3), (some (31, true)), false⟩,
     ⟨(some 35), .load false 1 (.t 34), (some (31, true)), false⟩,
     ⟨(some 36), .call (.c (.fn (.func F_wreckageref27_SameHeads) [] [])) [(.t 33), (.t 35)], (some (31, true)), false⟩,
     ⟨(some 37), .pick (.t 31) (.t 36) (.c (.bool false)), none, false⟩,
     ⟨(some 38), .mov (.t 37), none, false⟩,
     ⟨(some 39), .faddr 10 (.t 2), (some (38, true)), false⟩,
     ⟨(some 40), .load false 1 (.t 39), (some (38, true)), false⟩,
     ⟨(some 41), .faddr 10 (.t 3), (some (38, true)), false⟩,
     ⟨(some 42), .load false 1 (.t 41), (some (38, true)), false⟩,
     ⟨(some 43), .call (.c (.fn (.func F_wreckageref27_SameChains) [] [])) [(.t 40), (.t 42)], (some (38, true)), false⟩,
     ⟨(some 44), .pick (.t 38) (.t 43) (.c (.bool false)), none, false⟩,
     ⟨(some 45), .mov (.t 44), none, false⟩,
     ⟨(some 46), .faddr 11 (.t 2), (some (45, true)), false⟩,
     ⟨(some 47), .load false 1 (.t 46), (some (45, true)), false⟩,
     ⟨(some 48), .faddr 11 (.t 3), (some (45, true)), false⟩,
     ⟨(some 49), .load false 1 (.t 48), (some (45, true)), false⟩,
     ⟨(some 50), .call (.c (.fn (.func F_wreckageref27_SameChains) [] [])) [(.t 47), (.t 49)], (some (45, true)), false⟩,
     ⟨(some 51), .pick (.t 45) (.t 50) (.c (.bool false)), none, false⟩,
     ⟨(some 4), .mov (.t 51), none, false⟩])
   .ret))⟩
def n_wreckageref28_Same : List (List Nat) := []
theorem c_wreckageref28_Same : compFn Try.prog Try.f6 n_wreckageref28_Same = some a_wreckageref28_Same := by kernel_rfl
-- 7 wreckage/wreckageref28.Great
def a_wreckageref28_Great : AFunc := ⟨22, [.tmp 6],
 (.seq
  (.ops [⟨(some 3), .box 2 (.t 0), none, false⟩,
    ⟨(some 6), .mov (.c (.bool false)), none, false⟩])
  (.seq
   (.ops [⟨(some 7), .mov (.t 2), none, false⟩,
     ⟨(some 8), .len (.t 7), none, false⟩,
     ⟨(some 9), .bin .gtr (.t 8) (.c (.int .i64 (20))), none, false⟩,
     ⟨(some 10), .mov (.t 9), none, false⟩,
     ⟨(some 11), .mov (.t 1), (some (10, false)), false⟩,
     ⟨(some 12), .len (.t 11), (some (10, false)), false⟩,
     ⟨(some 13), .bin .gtr (.t 12) (.c (.int .i64 (20))), (some (10, false)), false⟩,
     ⟨(some 14), .pick (.t 10) (.c (.bool true)) (.t 13), none, false⟩,
     ⟨(some 15), .mov (.t 14), none, false⟩,
     ⟨(some 16), .load true 2 (.t 3), (some (15, false)), false⟩,
     ⟨(some 17), .lit 2 [(.t 16)], (some (15, false)), false⟩,
     ⟨(some 18), .mov (.t 1), (some (15, false)), false⟩,
     ⟨(some 19), .app 2 32 (.t 17) (.t 18), (some (15, false)), false⟩,
     ⟨(some 20), .call (.c (.fn (.func F_wreckageref26_Great) [] [])) [(.t 19)], (some (15, false)), false⟩,
     ⟨(some 21), .pick (.t 15) (.c (.bool true)) (.t 20), none, false⟩,
     ⟨(some 6), .mov (.t 21), none, false⟩])
   .ret))⟩
def n_wreckageref28_Great : List (List Nat) := []
theorem c_wreckageref28_Great : compFn Try.prog Try.f7 n_wreckageref28_Great = some a_wreckageref28_Great := by kernel_rfl
-- 8 wreckage/wreckageref27.Great
def a_wreckageref27_Great : AFunc := ⟨35, [.tmp 2],
 (.seq
  (.ops [⟨(some 2), .mov (.c (.bool false)), none, false⟩])
  (.seq
   (.ops [⟨(some 3), .mov (.c (.int .i64 (0))), none, false⟩])
   (.seq
    (.seq
     (.ops [⟨(some 4), .mov (.c (.int .i64 (0))), none, false⟩])
     (.block 0
      (.loop [0, 3, 4]
       (.seq
        (.seq
         (.ops [⟨(some 5), .mov (.t 4), none, false⟩,
           ⟨(some 6), .mov (.t 0), none, false⟩,
           ⟨(some 7), .len (.t 6), none, false⟩,
           ⟨(some 8), .bin .lss (.t 5) (.t 7), none, false⟩,
           ⟨(some 9), .mov (.t 8), none, false⟩,
           ⟨(some 10), .mov (.t 4), (some (9, true)), false⟩,
           ⟨(some 11), .bin .leq (.t 10) (.c (.int .i64 (20))), (some (9, true)), false⟩,
           ⟨(some 12), .pick (.t 9) (.t 11) (.c (.bool false)), none, false⟩])
         (.cond (.t 12)
          .skip
          (.exit 0)))
        (.seq
         (.block 1
          (.seq
           (.seq
            (.ops [⟨(some 15), .mov (.t 0), none, false⟩,
              ⟨(some 16), .mov (.t 4), none, false⟩,
              ⟨(some 17), .iaddr 1 (.t 15) (.t 16), none, false⟩,
              ⟨(some 18), .load false 1 (.t 17), none, false⟩,
              ⟨(some 19), .len (.t 18), none, false⟩,
              ⟨(some 20), .bin .gtr (.t 19) (.c (.int .i64 (420))), none, false⟩])
            (.cond (.t 20)
             (.seq
              (.ops [⟨(some 2), .mov (.c (.bool true)), none, false⟩])
              .ret)
             .skip))
           (.ops [⟨(some 21), .mov (.t 3), none, false⟩,
             ⟨(some 22), .mov (.t 0), none, false⟩,
             ⟨(some 23), .mov (.t 4), none, false⟩,
             ⟨(some 24), .iaddr 1 (.t 22) (.t 23), none, false⟩,
             ⟨(some 25), .load false 1 (.t 24), none, false⟩,
             ⟨(some 26), .len (.t 25), none, false⟩,
             ⟨(some 27), .bin .add (.t 21) (.t 26), none, false⟩,
             ⟨(some 3), .mov (.t 27), none, false⟩])))
         (.ops [⟨(some 13), .mov (.t 4), none, false⟩,
           ⟨(some 14), .bin .add (.t 13) (.c (.int .i64 (1))), none, false⟩,
           ⟨(some 4), .mov (.t 14), none, false⟩]))))))
    (.seq
     (.ops [⟨(some 28), .mov (.t 0), none, false⟩,
       ⟨(some 29), .len (.t 28), none, false⟩,
       ⟨(some 30), .bin .gtr (.t 29) (.c (.int .i64 (20))), none, false⟩,
       ⟨(some 31), .mov (.t 30), none, false⟩,
       ⟨(some 32), .mov (.t 3), (some (31, false)), false⟩,
       ⟨(some 33), .bin .gtr (.t 32) (.c (.int .i64 (1000))), (some (31, false)), false⟩,
       ⟨(some 34), .pick (.t 31) (.c (.bool true)) (.t 33), none, false⟩,
       ⟨(some 2), .mov (.t 34), none, false⟩])
     .ret))))⟩
def n_wreckageref27_Great : List (List Nat) := [[0, 3, 4]]
theorem c_wreckageref27_Great : compFn Try.prog Try.f8 n_wreckageref27_Great = some a_wreckageref27_Great := by kernel_rfl
-- 9 wreckage/wreckageref09.Great
def a_wreckageref09_Great : AFunc := ⟨101, [.tmp 2],
 (.seq
  (.ops [⟨(some 1), .box 3 (.t 0), none, false⟩,
    ⟨(some 2), .mov (.c (.bool false)), none, false⟩])
  (.seq
   (.seq
    (.ops [⟨(some 8), .faddr 0 (.t 1), none, false⟩,
      ⟨(some 9), .load false 1 (.t 8), none, false⟩,
      ⟨(some 10), .call (.c (.fn (.func F_wreckageref04_Great) [] [])) [(.t 9)], none, false⟩,
      ⟨(some 11), .mov (.t 10), none, false⟩,
      ⟨(some 12), .faddr 1 (.t 1), (some (11, false)), false⟩,
      ⟨(some 13), .load false 1 (.t 12), (some (11, false)), false⟩,
      ⟨(some 14), .len (.t 13), (some (11, false)), false⟩,
      ⟨(some 15), .bin .gtr (.t 14) (.c (.int .i64 (40))), (some (11, false)), false⟩,
      ⟨(some 16), .pick (.t 11) (.c (.bool true)) (.t 15), none, false⟩,
      ⟨(some 17), .mov (.t 16), none, false⟩,
      ⟨(some 18), .faddr 2 (.t 1), (some (17, false)), false⟩,
      ⟨(some 19), .load false 1 (.t 18), (some (17, false)), false⟩,
      ⟨(some 20), .len (.t 19), (some (17, false)), false⟩,
      ⟨(some 21), .bin .gtr (.t 20) (.c (.int .i64 (40))), (some (17, false)), false⟩,
      ⟨(some 22), .pick (.t 17) (.c (.bool true)) (.t 21), none, false⟩])
    (.cond (.t 22)
     (.seq
      (.ops [⟨(some 2), .mov (.c (.bool true)), none, false⟩])
      .ret)
     .skip))
   (.seq
    (.seq
     (.ops [⟨(some 3), .mov (.c (.int .i64 (0))), none, false⟩])
     (.block 0
      (.loop [1, 3]
       (.seq
        (.seq
         (.ops [⟨(some 23), .mov (.t 3), none, false⟩,
           ⟨(some 24), .faddr 1 (.t 1), none, false⟩,
           ⟨(some 25), .load false 1 (.t 24), none, false⟩,
           ⟨(some 26), .len (.t 25), none, false⟩,
           ⟨(some 27), .bin .lss (.t 23) (.t 26), none, false⟩])
         (.cond (.t 27)
          .skip
          (.exit 0)))
        (.seq
         (.block 1
          (.seq
           (.ops [⟨(some 30), .faddr 1 (.t 1), none, false⟩,
             ⟨(some 31), .load false 1 (.t 30), none, false⟩,
             ⟨(some 32), .mov (.t 3), none, false⟩,
             ⟨(some 33), .iaddr 1 (.t 31) (.t 32), none, false⟩,
             ⟨(some 34), .load false 1 (.t 33), none, false⟩,
             ⟨(some 35), .lenS (.t 34), none, false⟩,
             ⟨(some 36), .bin .gtr (.t 35) (.c (.int .i64 (100))), none, false⟩])
           (.cond (.t 36)
            (.seq
             (.ops [⟨(some 2), .mov (.c (.bool true)), none, false⟩])
             .ret)
            .skip)))
         (.ops [⟨(some 28), .mov (.t 3), none, false⟩,
           ⟨(some 29), .bin .add (.t 28) (.c (.int .i64 (1))), none, false⟩,
           ⟨(some 3), .mov (.t 29), none, false⟩]))))))
    (.seq
     (.ops [⟨(some 4), .mov (.c (.int .i64 (0))), none, false⟩])
     (.seq
      (.seq
       (.ops [⟨(some 5), .mov (.c (.int .i64 (0))), none, false⟩])
       (.block 2
        (.loop [1, 4, 5]
         (.seq
          (.seq
           (.ops [⟨(some 37), .mov (.t 5), none, false⟩,
             ⟨(some 38), .faddr 2 (.t 1), none, false⟩,
             ⟨(some 39), .load false 1 (.t 38), none, false⟩,
             ⟨(some 40), .len (.t 39), none, false⟩,
             ⟨(some 41), .bin .lss (.t 37) (.t 40), none, false⟩])
           (.cond (.t 41)
            .skip
            (.exit 2)))
          (.seq
           (.block 3
            (.seq
             (.ops [⟨(some 44), .faddr 2 (.t 1), none, false⟩,
               ⟨(some 45), .load false 1 (.t 44), none, false⟩,
               ⟨(some 46), .mov (.t 5), none, false⟩,
               ⟨(some 47), .iaddr 7 (.t 45) (.t 46), none, false⟩,
               ⟨(some 48), .load true 7 (.t 47), none, false⟩,
               ⟨(some 6), .alloc [.str [], .int .i64 (0), .int .i64 (0), .nils, .nils, .nils, .nils], none, false⟩,
               ⟨none, .store 7 (.t 6) (.t 48), none, false⟩])
             (.seq
              (.ops [⟨(some 49), .mov (.t 4), none, false⟩,
                ⟨(some 50), .faddr 4 (.t 6), none, false⟩,
                ⟨(some 51), .load false 1 (.t 50), none, false⟩,
                ⟨(some 52), .len (.t 51), none, false⟩,
                ⟨(some 53), .bin .add (.t 49) (.t 52), none, false⟩,
                ⟨(some 4), .mov (.t 53), none, false⟩])
              (.seq
               (.seq
                (.ops [⟨(some 54), .faddr 0 (.t 6), none, false⟩,
                  ⟨(some 55), .load false 1 (.t 54), none, false⟩,
                  ⟨(some 56), .lenS (.t 55), none, false⟩,
                  ⟨(some 57), .bin .gtr (.t 56) (.c (.int .i64 (100))), none, false⟩,
                  ⟨(some 58), .mov (.t 57), none, false⟩,
                  ⟨(some 59), .faddr 3 (.t 6), (some (58, false)), false⟩,
                  ⟨(some 60), .load false 1 (.t 59), (some (58, false)), false⟩,
                  ⟨(some 61), .len (.t 60), (some (58, false)), false⟩,
                  ⟨(some 62), .bin .gtr (.t 61) (.c (.int .i64 (20))), (some (58, false)), false⟩,
                  ⟨(some 63), .pick (.t 58) (.c (.bool true)) (.t 62), none, false⟩,
                  ⟨(some 64), .mov (.t 63), none, false⟩,
                  ⟨(some 65), .faddr 4 (.t 6), (some (64, false)), false⟩,
                  ⟨(some 66), .load false 1 (.t 65), (some (64, false)), false⟩,
                  ⟨(some 67), .len (.t 66), (some (64, false)), false⟩,
                  ⟨(some 68), .bin .gtr (.t 67) (.c (.int .i64 (210))), (some (64, false)), false⟩,
                  ⟨(some 69), .pick (.t 64) (.c (.bool true)) (.t 68), none, false⟩,
                  ⟨(some 70), .mov (.t 69), none, false⟩,
                  ⟨(some 71), .faddr 5 (.t 6), (some (70, false)), false⟩,
                  ⟨(some 72), .load false 1 (.t 71), (some (70, false)), false⟩,
                  ⟨(some 73), .len (.t 72), (some (70, false)), false⟩,
                  ⟨(some 74), .bin .gtr (.t 73) (.c (.int .i64 (210))), (some (70, false)), false⟩,
                  ⟨(some 75), .pick (.t 70) (.c (.bool true)) (.t 74), none, false⟩,
                  ⟨(some 76), .mov (.t 75), none, false⟩,
                  ⟨(some 77), .faddr 6 (.t 6), (some (76, false)), false⟩,
                  ⟨(some 78), .load false 1 (.t 77), (some (76, false)), false⟩,
                  ⟨(some 79), .len (.t 78), (some (76, false)), false⟩,
                  ⟨(some 80), .bin .gtr (.t 79) (.c (.int .i64 (210))), (some (76, false)), false⟩,
                  ⟨(some 81), .pick (.t 76) (.c (.bool true)) (.t 80), none, false⟩,
                  ⟨(some 82), .mov (.t 81), none, false⟩,
                  ⟨(some 83), .mov (.t 4), (some (82, false)), false⟩,
                  ⟨(some 84), .bin .gtr (.t 83) (.c (.int .i64 (1000))), (some (82, false)), false⟩,
                  ⟨(some 85), .pick (.t 82) (.c (.bool true)) (.t 84), none, false⟩])
                (.cond (.t 85)
                 (.seq
                  (.ops [⟨(some 2), .mov (.c (.bool true)), none, false⟩])
                  .ret)
                 .skip))
               (.seq
                (.ops [⟨(some 7), .mov (.c (.int .i64 (0))), none, false⟩])
                (.block 4
                 (.loop [1, 4, 5, 6, 7]
                  (.seq
                   (.seq
                    (.ops [⟨(some 86), .mov (.t 7), none, false⟩,
                      ⟨(some 87), .faddr 3 (.t 6), none, false⟩,
                      ⟨(some 88), .load false 1 (.t 87), none, false⟩,
                      ⟨(some 89), .len (.t 88), none, false⟩,
                      ⟨(some 90), .bin .lss (.t 86) (.t 89), none, false⟩])
                    (.cond (.t 90)
                     .skip
                     (.exit 4)))
                   (.seq
                    (.block 5
                     (.seq
                      (.ops [⟨(some 93), .faddr 3 (.t 6), none, false⟩,
                        ⟨(some 94), .load false 1 (.t 93), none, false⟩,
                        ⟨(some 95), .mov (.t 7), none, false⟩,
                        ⟨(some 96), .iaddr 2 (.t 94) (.t 95), none, false⟩,
                        ⟨(some 97), .faddr 0 (.t 96), none, false⟩,
                        ⟨(some 98), .load false 1 (.t 97), none, false⟩,
                        ⟨(some 99), .lenS (.t 98), none, false⟩,
                        ⟨(some 100), .bin .gtr (.t 99) (.c (.int .i64 (100))), none, false⟩])
                      (.cond (.t 100)
                       (.seq
                        (.ops [⟨(some 2), .mov (.c (.bool true)), none, false⟩])
                        .ret)
                       .skip)))
                    (.ops [⟨(some 91), .mov (.t 7), none, false⟩,
                      ⟨(some 92), .bin .add (.t 91) (.c (.int .i64 (1))), none, false⟩,
                      ⟨(some 7), .mov (.t 92), none, false⟩]))))))))))
           (.ops [⟨(some 42), .mov (.t 5), none, false⟩,
             ⟨(some 43), .bin .add (.t 42) (.c (.int .i64 (1))), none, false⟩,
             ⟨(some 5), .mov (.t 43), none, false⟩]))))))
      (.seq
       (.ops [⟨(some 2), .mov (.c (.bool false)), none, false⟩])
       .ret))))))⟩
def n_wreckageref09_Great : List (List Nat) := [[1, 3], [1, 4, 5], [1, 4, 5, 6, 7]]
theorem c_wreckageref09_Great : compFn Try.prog Try.f9 n_wreckageref09_Great = some a_wreckageref09_Great := by kernel_rfl
-- 10 slices.EqualFunc[[]wreckage/api.Type,[]wreckage/api.Type,wreckage/api.Type,wreckage/api.Type]
def a_slices_EqualFunc_api_Type_api_Type_api_Type_api_Type : AFunc := ⟨32, [.tmp 6],
 (.seq
  (.ops [⟨(some 6), .mov (.c (.bool false)), none, false⟩])
  (.seq
   (.seq
    (.ops [⟨(some 10), .mov (.t 0), none, false⟩,
      ⟨(some 11), .len (.t 10), none, false⟩,
      ⟨(some 12), .mov (.t 1), none, false⟩,
      ⟨(some 13), .len (.t 12), none, false⟩,
      ⟨(some 14), .bin .neq (.t 11) (.t 13), none, false⟩])
    (.cond (.t 14)
     (.seq
      (.ops [⟨(some 6), .mov (.c (.bool false)), none, false⟩])
      .ret)
     .skip))
   (.seq
    (.seq
     (.ops [⟨(some 15), .mov (.t 0), none, false⟩,
       ⟨(some 16), .len (.t 15), none, false⟩,
       ⟨(some 17), .mov (.c (.int .i64 (0))), none, false⟩])
     (.block 0
      (.loop [1, 2, 15, 16, 17]
       (.seq
        (.ops [⟨(some 18), .bin .lss (.t 17) (.t 16), none, false⟩])
        (.seq
         (.cond (.t 18)
          .skip
          (.exit 0))
         (.seq
          (.block 1
           (.seq
            (.ops [⟨(some 19), .mov (.t 17), none, false⟩,
              ⟨(some 20), .iaddr 4 (.t 15) (.t 17), none, false⟩,
              ⟨(some 21), .load true 4 (.t 20), none, false⟩,
              ⟨(some 8), .alloc [.int .u8 (0), .int .i64 (0), .int .i64 (0), .nils], none, false⟩,
              ⟨(some 7), .mov (.t 19), none, false⟩,
              ⟨none, .store 4 (.t 8) (.t 21), none, false⟩])
            (.seq
             (.ops [⟨(some 22), .mov (.t 1), none, false⟩,
               ⟨(some 23), .mov (.t 7), none, false⟩,
               ⟨(some 24), .iaddr 4 (.t 22) (.t 23), none, false⟩,
               ⟨(some 25), .load true 4 (.t 24), none, false⟩,
               ⟨(some 9), .alloc [.int .u8 (0), .int .i64 (0), .int .i64 (0), .nils], none, false⟩,
               ⟨none, .store 4 (.t 9) (.t 25), none, false⟩])
             (.seq
              (.ops [⟨(some 26), .mov (.t 2), none, false⟩,
                ⟨(some 27), .load true 4 (.t 8), none, false⟩,
                ⟨(some 28), .load true 4 (.t 9), none, false⟩,
                ⟨(some 29), .call (.t 26) [(.t 27), (.t 28)], none, false⟩,
                ⟨(some 30), .un .not (.t 29), none, false⟩])
              (.cond (.t 30)
               (.seq
                (.ops [⟨(some 6), .mov (.c (.bool false)), none, false⟩])
                .ret)
               .skip)))))
          (.ops [⟨(some 31), .bin .add (.t 17) (.c (.int .i64 (1))), none, false⟩,
            ⟨(some 17), .mov (.t 31), none, false⟩])))))))
    (.seq
     (.ops [⟨(some 6), .mov (.c (.bool true)), none, false⟩])
     .ret))))⟩
def n_slices_EqualFunc_api_Type_api_Type_api_Type_api_Type : List (List Nat) := [[1, 2, 15, 16, 17]]
theorem c_slices_EqualFunc_api_Type_api_Type_api_Type_api_Type : compFn Try.prog Try.f10 n_slices_EqualFunc_api_Type_api_Type_api_Type_api_Type = some a_slices_EqualFunc_api_Type_api_Type_api_Type_api_Type := by kernel_rfl
-- 11 wreckage/parse.sameType
def a_parse_sameType : AFunc := ⟨31, [.tmp 4],
 (.seq
  (.ops [⟨(some 2), .box 4 (.t 0), none, false⟩,
    ⟨(some 3), .box 4 (.t 1), none, false⟩,
    ⟨(some 4), .mov (.c (.bool false)), none, false⟩])
  (.seq
   (.ops [⟨(some 5), .faddr 0 (.t 2), none, false⟩,
     ⟨(some 6), .load false 1 (.t 5), none, false⟩,
     ⟨(some 7), .faddr 0 (.t 3), none, false⟩,
     ⟨(some 8), .load false 1 (.t 7), none, false⟩,
     ⟨(some 9), .bin .eql (.t 6) (.t 8), none, false⟩,
     ⟨(some 10), .mov (.t 9), none, false⟩,
     ⟨(some 11), .faddr 1 (.t 2), (some (10, true)), false⟩,
     ⟨(some 12), .load false 1 (.t 11), (some (10, true)), false⟩,
     ⟨(some 13), .faddr 1 (.t 3), (some (10, true)), false⟩,
     ⟨(some 14), .load false 1 (.t 13), (some (10, true)), false⟩,
     ⟨(some 15), .bin .eql (.t 12) (.t 14), (some (10, true)), false⟩,
     ⟨(some 16), .pick (.t 10) (.t 15) (.c (.bool false)), none, false⟩,
     ⟨(some 17), .mov (.t 16), none, false⟩,
     ⟨(some 18), .faddr 2 (.t 2), (some (17, true)), false⟩,
     ⟨(some 19), .load false 1 (.t 18), (some (17, true)), false⟩,
     ⟨(some 20), .faddr 2 (.t 3), (some (17, true)), false⟩,
     ⟨(some 21), .load false 1 (.t 20), (some (17, true)), false⟩,
     ⟨(some 22), .bin .eql (.t 19) (.t 21), (some (17, true)), false⟩,
     ⟨(some 23), .pick (.t 17) (.t 22) (.c (.bool false)), none, false⟩,
     ⟨(some 24), .mov (.t 23), none, false⟩,
     ⟨(some 25), .faddr 3 (.t 2), (some (24, true)), false⟩,
     ⟨(some 26), .load false 1 (.t 25), (some (24, true)), false⟩,
     ⟨(some 27), .faddr 3 (.t 3), (some (24, true)), false⟩,
     ⟨(some 28), .load false 1 (.t 27), (some (24, true)), false⟩,
     ⟨(some 29), .call (.c (.fn (.func F_slices_Equal_api_Field_api_Field) [] [])) [(.t 26), (.t 28)], (some (24, true)), false⟩,
     ⟨(some 30), .pick (.t 24) (.t 29) (.c (.bool false)), none, false⟩,
     ⟨(some 4), .mov (.t 30), none, false⟩])
   .ret))⟩
def n_parse_sameType : List (List Nat) := []
theorem c_parse_sameType : compFn Try.prog Try.f11 n_parse_sameType = some a_parse_sameType := by kernel_rfl
-- 12 slices.Equal[[]string,string]
def a_slices_Equal_string_string : AFunc := ⟨26, [.tmp 4],
 (.seq
  (.ops [⟨(some 4), .mov (.c (.bool false)), none, false⟩])
  (.seq
   (.seq
    (.ops [⟨(some 6), .mov (.t 0), none, false⟩,
      ⟨(some 7), .len (.t 6), none, false⟩,
      ⟨(some 8), .mov (.t 1), none, false⟩,
      ⟨(some 9), .len (.t 8), none, false⟩,
      ⟨(some 10), .bin .neq (.t 7) (.t 9), none, false⟩])
    (.cond (.t 10)
     (.seq
      (.ops [⟨(some 4), .mov (.c (.bool false)), none, false⟩])
      .ret)
     .skip))
   (.seq
    (.seq
     (.ops [⟨(some 11), .mov (.t 0), none, false⟩,
       ⟨(some 12), .len (.t 11), none, false⟩,
       ⟨(some 13), .mov (.c (.int .i64 (0))), none, false⟩])
     (.block 0
      (.loop [0, 1, 12, 13]
       (.seq
        (.ops [⟨(some 14), .bin .lss (.t 13) (.t 12), none, false⟩])
        (.seq
         (.cond (.t 14)
          .skip
          (.exit 0))
         (.seq
          (.block 1
           (.seq
            (.ops [⟨(some 15), .mov (.t 13), none, false⟩,
              ⟨(some 5), .mov (.t 15), none, false⟩])
            (.seq
             (.draw [⟨(some 16), .mov (.t 0), none, false⟩,
               ⟨(some 17), .mov (.t 5), none, false⟩,
               ⟨(some 18), .iaddr 1 (.t 16) (.t 17), none, false⟩,
               ⟨(some 19), .load false 1 (.t 18), none, false⟩,
               ⟨(some 20), .mov (.t 1), none, false⟩,
               ⟨(some 21), .mov (.t 5), none, false⟩,
               ⟨(some 22), .iaddr 1 (.t 20) (.t 21), none, false⟩,
               ⟨(some 23), .load false 1 (.t 22), none, false⟩,
               ⟨(some 24), .bin .neq (.t 19) (.t 23), none, false⟩])
             (.cond (.t 24)
              (.seq
               (.ops [⟨(some 4), .mov (.c (.bool false)), none, false⟩])
               .ret)
              .skip))))
          (.ops [⟨(some 25), .bin .add (.t 13) (.c (.int .i64 (1))), none, false⟩,
            ⟨(some 13), .mov (.t 25), none, false⟩])))))))
    (.seq
     (.ops [⟨(some 4), .mov (.c (.bool true)), none, false⟩])
     .ret))))⟩
def n_slices_Equal_string_string : List (List Nat) := [[0, 1, 12, 13]]
theorem c_slices_Equal_string_string : compFn Try.prog Try.f12 n_slices_Equal_string_string = some a_slices_Equal_string_string := by kernel_rfl
-- 13 slices.EqualFunc[[]wreckage/api.Func,[]wreckage/api.Func,wreckage/api.Func,wreckage/api.Func]
def a_slices_EqualFunc_api_Func_api_Func_api_Func_api_Func : AFunc := ⟨32, [.tmp 6],
 (.seq
  (.ops [⟨(some 6), .mov (.c (.bool false)), none, false⟩])
  (.seq
   (.seq
    (.ops [⟨(some 10), .mov (.t 0), none, false⟩,
      ⟨(some 11), .len (.t 10), none, false⟩,
      ⟨(some 12), .mov (.t 1), none, false⟩,
      ⟨(some 13), .len (.t 12), none, false⟩,
      ⟨(some 14), .bin .neq (.t 11) (.t 13), none, false⟩])
    (.cond (.t 14)
     (.seq
      (.ops [⟨(some 6), .mov (.c (.bool false)), none, false⟩])
      .ret)
     .skip))
   (.seq
    (.seq
     (.ops [⟨(some 15), .mov (.t 0), none, false⟩,
       ⟨(some 16), .len (.t 15), none, false⟩,
       ⟨(some 17), .mov (.c (.int .i64 (0))), none, false⟩])
     (.block 0
      (.loop [1, 2, 15, 16, 17]
       (.seq
        (.ops [⟨(some 18), .bin .lss (.t 17) (.t 16), none, false⟩])
        (.seq
         (.cond (.t 18)
          .skip
          (.exit 0))
         (.seq
          (.block 1
           (.seq
            (.ops [⟨(some 19), .mov (.t 17), none, false⟩,
              ⟨(some 20), .iaddr 7 (.t 15) (.t 17), none, false⟩,
              ⟨(some 21), .load true 7 (.t 20), none, false⟩,
              ⟨(some 8), .alloc [.str [], .int .i64 (0), .int .i64 (0), .nils, .nils, .nils, .nils], none, false⟩,
              ⟨(some 7), .mov (.t 19), none, false⟩,
              ⟨none, .store 7 (.t 8) (.t 21), none, false⟩])
            (.seq
             (.ops [⟨(some 22), .mov (.t 1), none, false⟩,
               ⟨(some 23), .mov (.t 7), none, false⟩,
               ⟨(some 24), .iaddr 7 (.t 22) (.t 23), none, false⟩,
               ⟨(some 25), .load true 7 (.t 24), none, false⟩,
               ⟨(some 9), .alloc [.str [], .int .i64 (0), .int .i64 (0), .nils, .nils, .nils, .nils], none, false⟩,
               ⟨none, .store 7 (.t 9) (.t 25), none, false⟩])
             (.seq
              (.ops [⟨(some 26), .mov (.t 2), none, false⟩,
                ⟨(some 27), .load true 7 (.t 8), none, false⟩,
                ⟨(some 28), .load true 7 (.t 9), none, false⟩,
                ⟨(some 29), .call (.t 26) [(.t 27), (.t 28)], none, false⟩,
                ⟨(some 30), .un .not (.t 29), none, false⟩])
              (.cond (.t 30)
               (.seq
                (.ops [⟨(some 6), .mov (.c (.bool false)), none, false⟩])
                .ret)
               .skip)))))
          (.ops [⟨(some 31), .bin .add (.t 17) (.c (.int .i64 (1))), none, false⟩,
            ⟨(some 17), .mov (.t 31), none, false⟩])))))))
    (.seq
     (.ops [⟨(some 6), .mov (.c (.bool true)), none, false⟩])
     .ret))))⟩
def n_slices_EqualFunc_api_Func_api_Func_api_Func_api_Func : List (List Nat) := [[1, 2, 15, 16, 17]]
theorem c_slices_EqualFunc_api_Func_api_Func_api_Func_api_Func : compFn Try.prog Try.f13 n_slices_EqualFunc_api_Func_api_Func_api_Func_api_Func = some a_slices_EqualFunc_api_Func_api_Func_api_Func_api_Func := by kernel_rfl
-- 14 wreckage/parse.sameFunc
def a_parse_sameFunc : AFunc := ⟨52, [.tmp 4],
 (.seq
  (.ops [⟨(some 2), .box 7 (.t 0), none, false⟩,
    ⟨(some 3), .box 7 (.t 1), none, false⟩,
    ⟨(some 4), .mov (.c (.bool false)), none, false⟩])
  (.seq
   (.ops [⟨(some 5), .faddr 0 (.t 2), none, false⟩,
     ⟨(some 6), .load false 1 (.t 5), none, false⟩,
     ⟨(some 7), .faddr 0 (.t 3), none, false⟩,
     ⟨(some 8), .load false 1 (.t 7), none, false⟩,
     ⟨(some 9), .bin .eql (.t 6) (.t 8), none, false⟩,
     ⟨(some 10), .mov (.t 9), none, false⟩,
     ⟨(some 11), .faddr 1 (.t 2), (some (10, true)), false⟩,
     ⟨(some 12), .load false 1 (.t 11), (some (10, true)), false⟩,
     ⟨(some 13), .faddr 1 (.t 3), (some (10, true)), false⟩,
     ⟨(some 14), .load false 1 (.t 13), (some (10, true)), false⟩,
     ⟨(some 15), .bin .eql (.t 12) (.t 14), (some (10, true)), false⟩,
     ⟨(some 16), .pick (.t 10) (.t 15) (.c (.bool false)), none, false⟩,
     ⟨(some 17), .mov (.t 16), none, false⟩,
     ⟨(some 18), .faddr 2 (.t 2), (some (17, true)), false⟩,
     ⟨(some 19), .load false 1 (.t 18), (some (17, true)), false⟩,
     ⟨(some 20), .faddr 2 (.t 3), (some (17, true)), false⟩,
     ⟨(some 21), .load false 1 (.t 20), (some (17, true)), false⟩,
     ⟨(some 22), .bin .eql (.t 19) (.t 21), (some (17, true)), false⟩,
     ⟨(some 23), .pick (.t 17) (.t 22) (.c (.bool false)), none, false⟩,
     ⟨(some 24), .mov (.t 23), none, false⟩,
     ⟨(some 25), .faddr 3 (.t 2), (some (24, true)), false⟩,
     ⟨(some 26), .load false 1 (.t 25), (some (24, true)), false⟩,
     ⟨(some 27), .faddr 3 (.t 3), (some (24, true)), false⟩,
     ⟨(some 28), .load false 1 (.t 27), (some (24, true)), false⟩,
     ⟨(some 29), .call (.c (.fn (.func F_slices_Equal_api_Field_api_Field) [] [])) [(.t 26), (.t 28)], (some (24, true)), false⟩,
     ⟨(some 30), .pick (.t 24) (.t 29) (.c (.bool false)), none, false⟩,
     ⟨(some 31), .mov (.t 30), none, false⟩,
     ⟨(some 32), .faddr 4 (.t 2), (some (31, true)), false⟩,
     ⟨(some 33), .load false 1 (.t 32), (some (31, true)), false⟩,
     ⟨(some 34), .faddr 4 (.t 3), (some (31, true)), false⟩,
     ⟨(some 35), .load false 1 (.t 34), (some (31, true)), false⟩,
     ⟨(some 36), .call (.c (.fn (.func F_slices_Equal_api_Instr_api_Instr) [] [])) [(.t 33), (.t 35)], (some (31, true)), false⟩,
     ⟨(some 37), .pick (.t 31) (.t 36) (.c (.bool false)), none, false⟩,
     ⟨(some 38), .mov (.t 37), none, false⟩,
     ⟨(some 39), .faddr 5 (.t 2), (some (38, true)), false⟩,
     ⟨(some 40), .load false 1 (.t 39), (some (38, true)), false⟩,
     ⟨(some 41), .faddr 5 (.t 3), (some (38, true)), false⟩,
     ⟨(some 42), .load false 1 (.t 41), (some (38, true)), false⟩,
     ⟨(some 43), .call (.c (.fn (.func F_slices_Equal_api_Run_api_Run) [] [])) [(.t 40), (.t 42)], (some (38, true)), false⟩,
     ⟨(some 44), .pick (.t 38) (.t 43) (.c (.bool false)), none, false⟩,
     ⟨(some 45), .mov (.t 44), none, false⟩,
     ⟨(some 46), .faddr 6 (.t 2), (some (45, true)), false⟩,
     ⟨(some 47), .load false 1 (.t 46), (some (45, true)), false⟩,
     ⟨(some 48), .faddr 6 (.t 3), (some (45, true)), false⟩,
     ⟨(some 49), .load false 1 (.t 48), (some (45, true)), false⟩,
     ⟨(some 50), .call (.c (.fn (.func F_slices_Equal_api_Run_api_Run) [] [])) [(.t 47), (.t 49)], (some (45, true)), false⟩,
     ⟨(some 51), .pick (.t 45) (.t 50) (.c (.bool false)), none, false⟩,
     ⟨(some 4), .mov (.t 51), none, false⟩])
   .ret))⟩
def n_parse_sameFunc : List (List Nat) := []
theorem c_parse_sameFunc : compFn Try.prog Try.f14 n_parse_sameFunc = some a_parse_sameFunc := by kernel_rfl
-- 15 wreckage/parse.sameRegion
def a_parse_sameRegion : AFunc := ⟨17, [.tmp 4],
 (.seq
  (.ops [⟨(some 2), .box 2 (.t 0), none, false⟩,
    ⟨(some 3), .box 2 (.t 1), none, false⟩,
    ⟨(some 4), .mov (.c (.bool false)), none, false⟩])
  (.seq
   (.ops [⟨(some 5), .faddr 0 (.t 2), none, false⟩,
     ⟨(some 6), .load false 1 (.t 5), none, false⟩,
     ⟨(some 7), .faddr 0 (.t 3), none, false⟩,
     ⟨(some 8), .load false 1 (.t 7), none, false⟩,
     ⟨(some 9), .bin .eql (.t 6) (.t 8), none, false⟩,
     ⟨(some 10), .mov (.t 9), none, false⟩,
     ⟨(some 11), .faddr 1 (.t 2), (some (10, true)), false⟩,
     ⟨(some 12), .load false 1 (.t 11), (some (10, true)), false⟩,
     ⟨(some 13), .faddr 1 (.t 3), (some (10, true)), false⟩,
     ⟨(some 14), .load false 1 (.t 13), (some (10, true)), false⟩,
     ⟨(some 15), .call (.c (.fn (.func F_slices_Equal_byte_byte) [] [])) [(.t 12), (.t 14)], (some (10, true)), false⟩,
     ⟨(some 16), .pick (.t 10) (.t 15) (.c (.bool false)), none, false⟩,
     ⟨(some 4), .mov (.t 16), none, false⟩])
   .ret))⟩
def n_parse_sameRegion : List (List Nat) := []
theorem c_parse_sameRegion : compFn Try.prog Try.f15 n_parse_sameRegion = some a_parse_sameRegion := by kernel_rfl
-- 16 slices.EqualFunc[[]wreckage/api.Region,[]wreckage/api.Region,wreckage/api.Region,wreckage/api.Region]
def a_slices_EqualFunc_api_Region_api_Region_api_Region_api_Region : AFunc := ⟨32, [.tmp 6],
 (.seq
  (.ops [⟨(some 6), .mov (.c (.bool false)), none, false⟩])
  (.seq
   (.seq
    (.ops [⟨(some 10), .mov (.t 0), none, false⟩,
      ⟨(some 11), .len (.t 10), none, false⟩,
      ⟨(some 12), .mov (.t 1), none, false⟩,
      ⟨(some 13), .len (.t 12), none, false⟩,
      ⟨(some 14), .bin .neq (.t 11) (.t 13), none, false⟩])
    (.cond (.t 14)
     (.seq
      (.ops [⟨(some 6), .mov (.c (.bool false)), none, false⟩])
      .ret)
     .skip))
   (.seq
    (.seq
     (.ops [⟨(some 15), .mov (.t 0), none, false⟩,
       ⟨(some 16), .len (.t 15), none, false⟩,
       ⟨(some 17), .mov (.c (.int .i64 (0))), none, false⟩])
     (.block 0
      (.loop [1, 2, 15, 16, 17]
       (.seq
        (.ops [⟨(some 18), .bin .lss (.t 17) (.t 16), none, false⟩])
        (.seq
         (.cond (.t 18)
          .skip
          (.exit 0))
         (.seq
          (.block 1
           (.seq
            (.ops [⟨(some 19), .mov (.t 17), none, false⟩,
              ⟨(some 20), .iaddr 2 (.t 15) (.t 17), none, false⟩,
              ⟨(some 21), .load true 2 (.t 20), none, false⟩,
              ⟨(some 8), .alloc [.int .u64 (0), .nils], none, false⟩,
              ⟨(some 7), .mov (.t 19), none, false⟩,
              ⟨none, .store 2 (.t 8) (.t 21), none, false⟩])
            (.seq
             (.ops [⟨(some 22), .mov (.t 1), none, false⟩,
               ⟨(some 23), .mov (.t 7), none, false⟩,
               ⟨(some 24), .iaddr 2 (.t 22) (.t 23), none, false⟩,
               ⟨(some 25), .load true 2 (.t 24), none, false⟩,
               ⟨(some 9), .alloc [.int .u64 (0), .nils], none, false⟩,
               ⟨none, .store 2 (.t 9) (.t 25), none, false⟩])
             (.seq
              (.ops [⟨(some 26), .mov (.t 2), none, false⟩,
                ⟨(some 27), .load true 2 (.t 8), none, false⟩,
                ⟨(some 28), .load true 2 (.t 9), none, false⟩,
                ⟨(some 29), .call (.t 26) [(.t 27), (.t 28)], none, false⟩,
                ⟨(some 30), .un .not (.t 29), none, false⟩])
              (.cond (.t 30)
               (.seq
                (.ops [⟨(some 6), .mov (.c (.bool false)), none, false⟩])
                .ret)
               .skip)))))
          (.ops [⟨(some 31), .bin .add (.t 17) (.c (.int .i64 (1))), none, false⟩,
            ⟨(some 17), .mov (.t 31), none, false⟩])))))))
    (.seq
     (.ops [⟨(some 6), .mov (.c (.bool true)), none, false⟩])
     .ret))))⟩
def n_slices_EqualFunc_api_Region_api_Region_api_Region_api_Region : List (List Nat) := [[1, 2, 15, 16, 17]]
theorem c_slices_EqualFunc_api_Region_api_Region_api_Region_api_Region : compFn Try.prog Try.f16 n_slices_EqualFunc_api_Region_api_Region_api_Region_api_Region = some a_slices_EqualFunc_api_Region_api_Region_api_Region_api_Region := by kernel_rfl
-- 17 slices.Equal[[]wreckage/api.Routine,wreckage/api.Routine]
def a_slices_Equal_api_Routine_api_Routine : AFunc := ⟨26, [.tmp 4],
 (.seq
  (.ops [⟨(some 4), .mov (.c (.bool false)), none, false⟩])
  (.seq
   (.seq
    (.ops [⟨(some 6), .mov (.t 0), none, false⟩,
      ⟨(some 7), .len (.t 6), none, false⟩,
      ⟨(some 8), .mov (.t 1), none, false⟩,
      ⟨(some 9), .len (.t 8), none, false⟩,
      ⟨(some 10), .bin .neq (.t 7) (.t 9), none, false⟩])
    (.cond (.t 10)
     (.seq
      (.ops [⟨(some 4), .mov (.c (.bool false)), none, false⟩])
      .ret)
     .skip))
   (.seq
    (.seq
     (.ops [⟨(some 11), .mov (.t 0), none, false⟩,
       ⟨(some 12), .len (.t 11), none, false⟩,
       ⟨(some 13), .mov (.c (.int .i64 (0))), none, false⟩])
     (.block 0
      (.loop [0, 1, 12, 13]
       (.seq
        (.ops [⟨(some 14), .bin .lss (.t 13) (.t 12), none, false⟩])
        (.seq
         (.cond (.t 14)
          .skip
          (.exit 0))
         (.seq
          (.block 1
           (.seq
            (.ops [⟨(some 15), .mov (.t 13), none, false⟩,
              ⟨(some 5), .mov (.t 15), none, false⟩])
            (.seq
             (.draw [⟨(some 16), .mov (.t 0), none, false⟩,
               ⟨(some 17), .mov (.t 5), none, false⟩,
               ⟨(some 18), .iaddr 6 (.t 16) (.t 17), none, false⟩,
               ⟨(some 19), .load true 6 (.t 18), none, false⟩,
               ⟨(some 20), .mov (.t 1), none, false⟩,
               ⟨(some 21), .mov (.t 5), none, false⟩,
               ⟨(some 22), .iaddr 6 (.t 20) (.t 21), none, false⟩,
               ⟨(some 23), .load true 6 (.t 22), none, false⟩,
               ⟨(some 24), .ext (.eqA true 6 [(0, 1), (1, 1), (2, 1), (3, 1), (4, 1), (5, 1)] (.t 19) (.t 23)), none, false⟩])
             (.cond (.t 24)
              (.seq
               (.ops [⟨(some 4), .mov (.c (.bool false)), none, false⟩])
               .ret)
              .skip))))
          (.ops [⟨(some 25), .bin .add (.t 13) (.c (.int .i64 (1))), none, false⟩,
            ⟨(some 13), .mov (.t 25), none, false⟩])))))))
    (.seq
     (.ops [⟨(some 4), .mov (.c (.bool true)), none, false⟩])
     .ret))))⟩
def n_slices_Equal_api_Routine_api_Routine : List (List Nat) := [[0, 1, 12, 13]]
theorem c_slices_Equal_api_Routine_api_Routine : compFn Try.prog Try.f17 n_slices_Equal_api_Routine_api_Routine = some a_slices_Equal_api_Routine_api_Routine := by kernel_rfl
-- 18 slices.EqualFunc[[][]uint64,[][]uint64,[]uint64,[]uint64]
def a_slices_EqualFunc_uint64_uint64_uint64_uint64 : AFunc := ⟨32, [.tmp 6],
 (.seq
  (.ops [⟨(some 6), .mov (.c (.bool false)), none, false⟩])
  (.seq
   (.seq
    (.ops [⟨(some 10), .mov (.t 0), none, false⟩,
      ⟨(some 11), .len (.t 10), none, false⟩,
      ⟨(some 12), .mov (.t 1), none, false⟩,
      ⟨(some 13), .len (.t 12), none, false⟩,
      ⟨(some 14), .bin .neq (.t 11) (.t 13), none, false⟩])
    (.cond (.t 14)
     (.seq
      (.ops [⟨(some 6), .mov (.c (.bool false)), none, false⟩])
      .ret)
     .skip))
   (.seq
    (.seq
     (.ops [⟨(some 15), .mov (.t 0), none, false⟩,
       ⟨(some 16), .len (.t 15), none, false⟩,
       ⟨(some 17), .mov (.c (.int .i64 (0))), none, false⟩])
     (.block 0
      (.loop [1, 2, 15, 16, 17]
       (.seq
        (.ops [⟨(some 18), .bin .lss (.t 17) (.t 16), none, false⟩])
        (.seq
         (.cond (.t 18)
          .skip
          (.exit 0))
         (.seq
          (.block 1
           (.seq
            (.ops [⟨(some 19), .mov (.t 17), none, false⟩,
              ⟨(some 20), .iaddr 1 (.t 15) (.t 17), none, false⟩,
              ⟨(some 21), .load false 1 (.t 20), none, false⟩,
              ⟨(some 7), .mov (.t 19), none, false⟩,
              ⟨(some 8), .mov (.t 21), none, false⟩])
            (.seq
             (.ops [⟨(some 22), .mov (.t 1), none, false⟩,
               ⟨(some 23), .mov (.t 7), none, false⟩,
               ⟨(some 24), .iaddr 1 (.t 22) (.t 23), none, false⟩,
               ⟨(some 25), .load false 1 (.t 24), none, false⟩,
               ⟨(some 9), .mov (.t 25), none, false⟩])
             (.seq
              (.ops [⟨(some 26), .mov (.t 2), none, false⟩,
                ⟨(some 27), .mov (.t 8), none, false⟩,
                ⟨(some 28), .mov (.t 9), none, false⟩,
                ⟨(some 29), .call (.t 26) [(.t 27), (.t 28)], none, false⟩,
                ⟨(some 30), .un .not (.t 29), none, false⟩])
              (.cond (.t 30)
               (.seq
                (.ops [⟨(some 6), .mov (.c (.bool false)), none, false⟩])
                .ret)
               .skip)))))
          (.ops [⟨(some 31), .bin .add (.t 17) (.c (.int .i64 (1))), none, false⟩,
            ⟨(some 17), .mov (.t 31), none, false⟩])))))))
    (.seq
     (.ops [⟨(some 6), .mov (.c (.bool true)), none, false⟩])
     .ret))))⟩
def n_slices_EqualFunc_uint64_uint64_uint64_uint64 : List (List Nat) := [[1, 2, 15, 16, 17]]
theorem c_slices_EqualFunc_uint64_uint64_uint64_uint64 : compFn Try.prog Try.f18 n_slices_EqualFunc_uint64_uint64_uint64_uint64 = some a_slices_EqualFunc_uint64_uint64_uint64_uint64 := by kernel_rfl
-- 19 wreckage/parse.sameChain
def a_parse_sameChain : AFunc := ⟨8, [.tmp 4],
 (.seq
  (.ops [⟨(some 4), .mov (.c (.bool false)), none, false⟩])
  (.seq
   (.ops [⟨(some 5), .mov (.t 0), none, false⟩,
     ⟨(some 6), .mov (.t 1), none, false⟩,
     ⟨(some 7), .call (.c (.fn (.func F_slices_Equal_uint64_uint64) [] [])) [(.t 5), (.t 6)], none, false⟩,
     ⟨(some 4), .mov (.t 7), none, false⟩])
   .ret))⟩
def n_parse_sameChain : List (List Nat) := []
theorem c_parse_sameChain : compFn Try.prog Try.f19 n_parse_sameChain = some a_parse_sameChain := by kernel_rfl
-- 20 wreckage/wreckageref09.Same
def a_wreckageref09_Same : AFunc := ⟨68, [.tmp 4],
 (.seq
  (.ops [⟨(some 2), .box 3 (.t 0), none, false⟩,
    ⟨(some 3), .box 3 (.t 1), none, false⟩,
    ⟨(some 4), .mov (.c (.bool false)), none, false⟩])
  (.seq
   (.seq
    (.ops [⟨(some 7), .faddr 0 (.t 2), none, false⟩,
      ⟨(some 8), .load false 1 (.t 7), none, false⟩,
      ⟨(some 9), .faddr 0 (.t 3), none, false⟩,
      ⟨(some 10), .load false 1 (.t 9), none, false⟩,
      ⟨(some 11), .call (.c (.fn (.func F_wreckageref04_SameTable) [] [])) [(.t 8), (.t 10)], none, false⟩,
      ⟨(some 12), .un .not (.t 11), none, false⟩,
      ⟨(some 13), .mov (.t 12), none, false⟩,
      ⟨(some 14), .faddr 1 (.t 2), (some (13, false)), false⟩,
      ⟨(some 15), .load false 1 (.t 14), (some (13, false)), false⟩,
      ⟨(some 16), .len (.t 15), (some (13, false)), false⟩,
      ⟨(some 17), .faddr 1 (.t 3), (some (13, false)), false⟩,
      ⟨(some 18), .load false 1 (.t 17), (some (13, false)), false⟩,
      ⟨(some 19), .len (.t 18), (some (13, false)), false⟩,
      ⟨(some 20), .bin .neq (.t 16) (.t 19), (some (13, false)), false⟩,
      ⟨(some 21), .pick (.t 13) (.c (.bool true)) (.t 20), none, false⟩,
      ⟨(some 22), .mov (.t 21), none, false⟩,
      ⟨(some 23), .faddr 2 (.t 2), (some (22, false)), false⟩,
      ⟨(some 24), .load false 1 (.t 23), (some (22, false)), false⟩,
      ⟨(some 25), .len (.t 24), (some (22, false)), false⟩,
      ⟨(some 26), .faddr 2 (.t 3), (some (22, false)), false⟩,
      ⟨(some 27), .load false 1 (.t 26), (some (22, false)), false⟩,
      ⟨(some 28), .len (.t 27), (some (22, false)), false⟩,
      ⟨(some 29), .bin .neq (.t 25) (.t 28), (some (22, false)), false⟩,
      ⟨(some 30), .pick (.t 22) (.c (.bool true)) (.t 29), none, false⟩])
    (.cond (.t 30)
     (.seq
      (.ops [⟨(some 4), .mov (.c (.bool false)), none, false⟩])
      .ret)
     .skip))
   (.seq
    (.seq
     (.ops [⟨(some 5), .mov (.c (.int .i64 (0))), none, false⟩])
     (.block 0
      (.loop [2, 3, 5]
       (.seq
        (.seq
         (.ops [⟨(some 31), .mov (.t 5), none, false⟩,
           ⟨(some 32), .faddr 1 (.t 2), none, false⟩,
           ⟨(some 33), .load false 1 (.t 32), none, false⟩,
           ⟨(some 34), .len (.t 33), none, false⟩,
           ⟨(some 35), .bin .lss (.t 31) (.t 34), none, false⟩])
         (.cond (.t 35)
          .skip
          (.exit 0)))
        (.seq
         (.block 1
          (.seq
           (.draw [⟨(some 38), .faddr 1 (.t 2), none, false⟩,
             ⟨(some 39), .load false 1 (.t 38), none, false⟩,
             ⟨(some 40), .mov (.t 5), none, false⟩,
             ⟨(some 41), .iaddr 1 (.t 39) (.t 40), none, false⟩,
             ⟨(some 42), .load false 1 (.t 41), none, false⟩,
             ⟨(some 43), .faddr 1 (.t 3), none, false⟩,
             ⟨(some 44), .load false 1 (.t 43), none, false⟩,
             ⟨(some 45), .mov (.t 5), none, false⟩,
             ⟨(some 46), .iaddr 1 (.t 44) (.t 45), none, false⟩,
             ⟨(some 47), .load false 1 (.t 46), none, false⟩,
             ⟨(some 48), .bin .neq (.t 42) (.t 47), none, false⟩])
           (.cond (.t 48)
            (.seq
             (.ops [⟨(some 4), .mov (.c (.bool false)), none, false⟩])
             .ret)
            .skip)))
         (.ops [⟨(some 36), .mov (.t 5), none, false⟩,
           ⟨(some 37), .bin .add (.t 36) (.c (.int .i64 (1))), none, false⟩,
           ⟨(some 5), .mov (.t 37), none, false⟩]))))))
    (.seq
     (.seq
      (.ops [⟨(some 6), .mov (.c (.int .i64 (0))), none, false⟩])
      (.block 2
       (.loop [2, 3, 6]
        (.seq
         (.seq
          (.ops [⟨(some 49), .mov (.t 6), none, false⟩,
            ⟨(some 50), .faddr 2 (.t 2), none, false⟩,
            ⟨(some 51), .load false 1 (.t 50), none, false⟩,
            ⟨(some 52), .len (.t 51), none, false⟩,
            ⟨(some 53), .bin .lss (.t 49) (.t 52), none, false⟩])
          (.cond (.t 53)
           .skip
           (.exit 2)))
         (.seq
          (.block 3
           (.seq
            (.draw [⟨(some 56), .faddr 2 (.t 2), none, false⟩,
              ⟨(some 57), .load false 1 (.t 56), none, false⟩,
              ⟨(some 58), .mov (.t 6), none, false⟩,
              ⟨(some 59), .iaddr 7 (.t 57) (.t 58), none, false⟩,
              ⟨(some 60), .load true 7 (.t 59), none, false⟩,
              ⟨(some 61), .faddr 2 (.t 3), none, false⟩,
              ⟨(some 62), .load false 1 (.t 61), none, false⟩,
              ⟨(some 63), .mov (.t 6), none, false⟩,
              ⟨(some 64), .iaddr 7 (.t 62) (.t 63), none, false⟩,
              ⟨(some 65), .load true 7 (.t 64), none, false⟩,
              ⟨(some 66), .call (.c (.fn (.func F_wreckageref09_SameFunc) [] [])) [(.t 60), (.t 65)], none, false⟩,
              ⟨(some 67), .un .not (.t 66), none, false⟩])
            (.cond (.t 67)
             (.seq
              (.ops [⟨(some 4), .mov (.c (.bool false)), none, false⟩])
              .ret)
             .skip)))
          (.ops [⟨(some 54), .mov (.t 6), none, false⟩,
            ⟨(some 55), .bin .add (.t 54) (.c (.int .i64 (1))), none, false⟩,
            ⟨(some 6), .mov (.t 55), none, false⟩]))))))
     (.seq
      (.ops [⟨(some 4), .mov (.c (.bool true)), none, false⟩])
      .ret)))))⟩
def n_wreckageref09_Same : List (List Nat) := [[2, 3, 5], [2, 3, 6]]
theorem c_wreckageref09_Same : compFn Try.prog Try.f20 n_wreckageref09_Same = some a_wreckageref09_Same := by kernel_rfl
-- 21 wreckage/wreckageref26.SameRegion
def a_wreckageref26_SameRegion : AFunc := ⟨19, [.tmp 4],
 (.seq
  (.ops [⟨(some 2), .box 2 (.t 0), none, false⟩,
    ⟨(some 3), .box 2 (.t 1), none, false⟩,
    ⟨(some 4), .mov (.c (.bool false)), none, false⟩])
  (.seq
   (.ops [⟨(some 5), .faddr 0 (.t 2), none, false⟩,
     ⟨(some 6), .load false 1 (.t 5), none, false⟩,
     ⟨(some 7), .faddr 0 (.t 3), none, false⟩,
     ⟨(some 8), .load false 1 (.t 7), none, false⟩,
     ⟨(some 9), .bin .eql (.t 6) (.t 8), none, false⟩,
     ⟨(some 10), .mov (.t 9), none, false⟩,
     ⟨(some 11), .faddr 1 (.t 2), (some (10, true)), false⟩,
     ⟨(some 12), .load false 1 (.t 11), (some (10, true)), false⟩,
     ⟨(some 13), .toStr (.t 12), (some (10, true)), false⟩,
     ⟨(some 14), .faddr 1 (.t 3), (some (10, true)), false⟩,
     ⟨(some 15), .load false 1 (.t 14), (some (10, true)), false⟩,
     ⟨(some 16), .toStr (.t 15), (some (10, true)), false⟩,
     ⟨(some 17), .bin .eql (.t 13) (.t 16), (some (10, true)), false⟩,
     ⟨(some 18), .pick (.t 10) (.t 17) (.c (.bool false)), none, false⟩,
     ⟨(some 4), .mov (.t 18), none, false⟩])
   .ret))⟩
def n_wreckageref26_SameRegion : List (List Nat) := []
theorem c_wreckageref26_SameRegion : compFn Try.prog Try.f21 n_wreckageref26_SameRegion = some a_wreckageref26_SameRegion := by kernel_rfl
-- 22 wreckage/wreckageref26.SameRegions
def a_wreckageref26_SameRegions : AFunc := ⟨27, [.tmp 4],
 (.seq
  (.ops [⟨(some 4), .mov (.c (.bool false)), none, false⟩])
  (.seq
   (.seq
    (.ops [⟨(some 6), .mov (.t 0), none, false⟩,
      ⟨(some 7), .len (.t 6), none, false⟩,
      ⟨(some 8), .mov (.t 1), none, false⟩,
      ⟨(some 9), .len (.t 8), none, false⟩,
      ⟨(some 10), .bin .neq (.t 7) (.t 9), none, false⟩])
    (.cond (.t 10)
     (.seq
      (.ops [⟨(some 4), .mov (.c (.bool false)), none, false⟩])
      .ret)
     .skip))
   (.seq
    (.seq
     (.ops [⟨(some 5), .mov (.c (.int .i64 (0))), none, false⟩])
     (.block 0
      (.loop [0, 1, 5]
       (.seq
        (.seq
         (.ops [⟨(some 11), .mov (.t 5), none, false⟩,
           ⟨(some 12), .mov (.t 0), none, false⟩,
           ⟨(some 13), .len (.t 12), none, false⟩,
           ⟨(some 14), .bin .lss (.t 11) (.t 13), none, false⟩])
         (.cond (.t 14)
          .skip
          (.exit 0)))
        (.seq
         (.block 1
          (.seq
           (.draw [⟨(some 17), .mov (.t 0), none, false⟩,
             ⟨(some 18), .mov (.t 5), none, false⟩,
             ⟨(some 19), .iaddr 2 (.t 17) (.t 18), none, false⟩,
             ⟨(some 20), .load true 2 (.t 19), none, false⟩,
             ⟨(some 21), .mov (.t 1), none, false⟩,
             ⟨(some 22), .mov (.t 5), none, false⟩,
             ⟨(some 23), .iaddr 2 (.t 21) (.t 22), none, false⟩,
             ⟨(some 24), .load true 2 (.t 23), none, false⟩,
             ⟨(some 25), .call (.c (.fn (.func F_wreckageref26_SameRegion) [] [])) [(.t 20), (.t 24)], none, false⟩,
             ⟨(some 26), .un .not (.t 25), none, false⟩])
           (.cond (.t 26)
            (.seq
             (.ops [⟨(some 4), .mov (.c (.bool false)), none, false⟩])
             .ret)
            .skip)))
         (.ops [⟨(some 15), .mov (.t 5), none, false⟩,
           ⟨(some 16), .bin .add (.t 15) (.c (.int .i64 (1))), none, false⟩,
           ⟨(some 5), .mov (.t 16), none, false⟩]))))))
    (.seq
     (.ops [⟨(some 4), .mov (.c (.bool true)), none, false⟩])
     .ret))))⟩
def n_wreckageref26_SameRegions : List (List Nat) := [[0, 1, 5]]
theorem c_wreckageref26_SameRegions : compFn Try.prog Try.f22 n_wreckageref26_SameRegions = some a_wreckageref26_SameRegions := by kernel_rfl
-- 23 wreckage/wreckageref27.SameHeads
def a_wreckageref27_SameHeads : AFunc := ⟨26, [.tmp 4],
 (.seq
  (.ops [⟨(some 4), .mov (.c (.bool false)), none, false⟩])
  (.seq
   (.seq
    (.ops [⟨(some 6), .mov (.t 0), none, false⟩,
      ⟨(some 7), .len (.t 6), none, false⟩,
      ⟨(some 8), .mov (.t 1), none, false⟩,
      ⟨(some 9), .len (.t 8), none, false⟩,
      ⟨(some 10), .bin .neq (.t 7) (.t 9), none, false⟩])
    (.cond (.t 10)
     (.seq
      (.ops [⟨(some 4), .mov (.c (.bool false)), none, false⟩])
      .ret)
     .skip))
   (.seq
    (.seq
     (.ops [⟨(some 5), .mov (.c (.int .i64 (0))), none, false⟩])
     (.block 0
      (.loop [0, 1, 5]
       (.seq
        (.seq
         (.ops [⟨(some 11), .mov (.t 5), none, false⟩,
           ⟨(some 12), .mov (.t 0), none, false⟩,
           ⟨(some 13), .len (.t 12), none, false⟩,
           ⟨(some 14), .bin .lss (.t 11) (.t 13), none, false⟩])
         (.cond (.t 14)
          .skip
          (.exit 0)))
        (.seq
         (.block 1
          (.seq
           (.draw [⟨(some 17), .mov (.t 0), none, false⟩,
             ⟨(some 18), .mov (.t 5), none, false⟩,
             ⟨(some 19), .iaddr 6 (.t 17) (.t 18), none, false⟩,
             ⟨(some 20), .load true 6 (.t 19), none, false⟩,
             ⟨(some 21), .mov (.t 1), none, false⟩,
             ⟨(some 22), .mov (.t 5), none, false⟩,
             ⟨(some 23), .iaddr 6 (.t 21) (.t 22), none, false⟩,
             ⟨(some 24), .load true 6 (.t 23), none, false⟩,
             ⟨(some 25), .ext (.eqA true 6 [(0, 1), (1, 1), (2, 1), (3, 1), (4, 1), (5, 1)] (.t 20) (.t 24)), none, false⟩])
           (.cond (.t 25)
            (.seq
             (.ops [⟨(some 4), .mov (.c (.bool false)), none, false⟩])
             .ret)
            .skip)))
         (.ops [⟨(some 15), .mov (.t 5), none, false⟩,
           ⟨(some 16), .bin .add (.t 15) (.c (.int .i64 (1))), none, false⟩,
           ⟨(some 5), .mov (.t 16), none, false⟩]))))))
    (.seq
     (.ops [⟨(some 4), .mov (.c (.bool true)), none, false⟩])
     .ret))))⟩
def n_wreckageref27_SameHeads : List (List Nat) := [[0, 1, 5]]
theorem c_wreckageref27_SameHeads : compFn Try.prog Try.f23 n_wreckageref27_SameHeads = some a_wreckageref27_SameHeads := by kernel_rfl
-- 24 wreckage/wreckageref27.SameChains
def a_wreckageref27_SameChains : AFunc := ⟨27, [.tmp 4],
 (.seq
  (.ops [⟨(some 4), .mov (.c (.bool false)), none, false⟩])
  (.seq
   (.seq
    (.ops [⟨(some 6), .mov (.t 0), none, false⟩,
      ⟨(some 7), .len (.t 6), none, false⟩,
      ⟨(some 8), .mov (.t 1), none, false⟩,
      ⟨(some 9), .len (.t 8), none, false⟩,
      ⟨(some 10), .bin .neq (.t 7) (.t 9), none, false⟩])
    (.cond (.t 10)
     (.seq
      (.ops [⟨(some 4), .mov (.c (.bool false)), none, false⟩])
      .ret)
     .skip))
   (.seq
    (.seq
     (.ops [⟨(some 5), .mov (.c (.int .i64 (0))), none, false⟩])
     (.block 0
      (.loop [0, 1, 5]
       (.seq
        (.seq
         (.ops [⟨(some 11), .mov (.t 5), none, false⟩,
           ⟨(some 12), .mov (.t 0), none, false⟩,
           ⟨(some 13), .len (.t 12), none, false⟩,
           ⟨(some 14), .bin .lss (.t 11) (.t 13), none, false⟩])
         (.cond (.t 14)
          .skip
          (.exit 0)))
        (.seq
         (.block 1
          (.seq
           (.draw [⟨(some 17), .mov (.t 0), none, false⟩,
             ⟨(some 18), .mov (.t 5), none, false⟩,
             ⟨(some 19), .iaddr 1 (.t 17) (.t 18), none, false⟩,
             ⟨(some 20), .load false 1 (.t 19), none, false⟩,
             ⟨(some 21), .mov (.t 1), none, false⟩,
             ⟨(some 22), .mov (.t 5), none, false⟩,
             ⟨(some 23), .iaddr 1 (.t 21) (.t 22), none, false⟩,
             ⟨(some 24), .load false 1 (.t 23), none, false⟩,
             ⟨(some 25), .call (.c (.fn (.func F_wreckageref27_SameList) [] [])) [(.t 20), (.t 24)], none, false⟩,
             ⟨(some 26), .un .not (.t 25), none, false⟩])
           (.cond (.t 26)
            (.seq
             (.ops [⟨(some 4), .mov (.c (.bool false)), none, false⟩])
             .ret)
            .skip)))
         (.ops [⟨(some 15), .mov (.t 5), none, false⟩,
           ⟨(some 16), .bin .add (.t 15) (.c (.int .i64 (1))), none, false⟩,
           ⟨(some 5), .mov (.t 16), none, false⟩]))))))
    (.seq
     (.ops [⟨(some 4), .mov (.c (.bool true)), none, false⟩])
     .ret))))⟩
def n_wreckageref27_SameChains : List (List Nat) := [[0, 1, 5]]
theorem c_wreckageref27_SameChains : compFn Try.prog Try.f24 n_wreckageref27_SameChains = some a_wreckageref27_SameChains := by kernel_rfl
-- 25 wreckage/wreckageref26.Great
def a_wreckageref26_Great : AFunc := ⟨37, [.tmp 2],
 (.seq
  (.ops [⟨(some 2), .mov (.c (.bool false)), none, false⟩])
  (.seq
   (.ops [⟨(some 3), .mov (.c (.int .i64 (0))), none, false⟩])
   (.seq
    (.seq
     (.ops [⟨(some 4), .mov (.c (.int .i64 (0))), none, false⟩])
     (.block 0
      (.loop [0, 3, 4]
       (.seq
        (.seq
         (.ops [⟨(some 5), .mov (.t 4), none, false⟩,
           ⟨(some 6), .mov (.t 0), none, false⟩,
           ⟨(some 7), .len (.t 6), none, false⟩,
           ⟨(some 8), .bin .lss (.t 5) (.t 7), none, false⟩,
           ⟨(some 9), .mov (.t 8), none, false⟩,
           ⟨(some 10), .mov (.t 4), (some (9, true)), false⟩,
           ⟨(some 11), .bin .leq (.t 10) (.c (.int .i64 (20))), (some (9, true)), false⟩,
           ⟨(some 12), .pick (.t 9) (.t 11) (.c (.bool false)), none, false⟩])
         (.cond (.t 12)
          .skip
          (.exit 0)))
        (.seq
         (.block 1
          (.seq
           (.seq
            (.ops [⟨(some 15), .mov (.t 0), none, false⟩,
              ⟨(some 16), .mov (.t 4), none, false⟩,
              ⟨(some 17), .iaddr 2 (.t 15) (.t 16), none, false⟩,
              ⟨(some 18), .faddr 1 (.t 17), none, false⟩,
              ⟨(some 19), .load false 1 (.t 18), none, false⟩,
              ⟨(some 20), .len (.t 19), none, false⟩,
              ⟨(some 21), .bin .gtr (.t 20) (.c (.int .i64 (20000))), none, false⟩])
            (.cond (.t 21)
             (.seq
              (.ops [⟨(some 2), .mov (.c (.bool true)), none, false⟩])
              .ret)
             .skip))
           (.ops [⟨(some 22), .mov (.t 3), none, false⟩,
             ⟨(some 23), .mov (.t 0), none, false⟩,
             ⟨(some 24), .mov (.t 4), none, false⟩,
             ⟨(some 25), .iaddr 2 (.t 23) (.t 24), none, false⟩,
             ⟨(some 26), .faddr 1 (.t 25), none, false⟩,
             ⟨(some 27), .load false 1 (.t 26), none, false⟩,
             ⟨(some 28), .len (.t 27), none, false⟩,
             ⟨(some 29), .bin .add (.t 22) (.t 28), none, false⟩,
             ⟨(some 3), .mov (.t 29), none, false⟩])))
         (.ops [⟨(some 13), .mov (.t 4), none, false⟩,
           ⟨(some 14), .bin .add (.t 13) (.c (.int .i64 (1))), none, false⟩,
           ⟨(some 4), .mov (.t 14), none, false⟩]))))))
    (.seq
     (.ops [⟨(some 30), .mov (.t 0), none, false⟩,
       ⟨(some 31), .len (.t 30), none, false⟩,
       ⟨(some 32), .bin .gtr (.t 31) (.c (.int .i64 (20))), none, false⟩,
       ⟨(some 33), .mov (.t 32), none, false⟩,
       ⟨(some 34), .mov (.t 3), (some (33, false)), false⟩,
       ⟨(some 35), .bin .gtr (.t 34) (.c (.int .i64 (40000))), (some (33, false)), false⟩,
       ⟨(some 36), .pick (.t 33) (.c (.bool true)) (.t 35), none, false⟩,
       ⟨(some 2), .mov (.t 36), none, false⟩])
     .ret))))⟩
def n_wreckageref26_Great : List (List Nat) := [[0, 3, 4]]
theorem c_wreckageref26_Great : compFn Try.prog Try.f25 n_wreckageref26_Great = some a_wreckageref26_Great := by kernel_rfl
-- 26 wreckage/wreckageref04.Great
def a_wreckageref04_Great : AFunc := ⟨42, [.tmp 2],
 (.seq
  (.ops [⟨(some 2), .mov (.c (.bool false)), none, false⟩])
  (.seq
   (.seq
    (.ops [⟨(some 5), .mov (.t 0), none, false⟩,
      ⟨(some 6), .len (.t 5), none, false⟩,
      ⟨(some 7), .bin .gtr (.t 6) (.c (.int .i64 (40))), none, false⟩])
    (.cond (.t 7)
     (.seq
      (.ops [⟨(some 2), .mov (.c (.bool true)), none, false⟩])
      .ret)
     .skip))
   (.seq
    (.seq
     (.ops [⟨(some 3), .mov (.c (.int .i64 (0))), none, false⟩])
     (.block 0
      (.loop [0, 3]
       (.seq
        (.seq
         (.ops [⟨(some 8), .mov (.t 3), none, false⟩,
           ⟨(some 9), .mov (.t 0), none, false⟩,
           ⟨(some 10), .len (.t 9), none, false⟩,
           ⟨(some 11), .bin .lss (.t 8) (.t 10), none, false⟩])
         (.cond (.t 11)
          .skip
          (.exit 0)))
        (.seq
         (.block 1
          (.seq
           (.seq
            (.ops [⟨(some 14), .mov (.t 0), none, false⟩,
              ⟨(some 15), .mov (.t 3), none, false⟩,
              ⟨(some 16), .iaddr 4 (.t 14) (.t 15), none, false⟩,
              ⟨(some 17), .faddr 3 (.t 16), none, false⟩,
              ⟨(some 18), .load false 1 (.t 17), none, false⟩,
              ⟨(some 19), .len (.t 18), none, false⟩,
              ⟨(some 20), .bin .gtr (.t 19) (.c (.int .i64 (20))), none, false⟩])
            (.cond (.t 20)
             (.seq
              (.ops [⟨(some 2), .mov (.c (.bool true)), none, false⟩])
              .ret)
             .skip))
           (.seq
            (.ops [⟨(some 4), .mov (.c (.int .i64 (0))), none, false⟩])
            (.block 2
             (.loop [0, 3, 4]
              (.seq
               (.seq
                (.ops [⟨(some 21), .mov (.t 4), none, false⟩,
                  ⟨(some 22), .mov (.t 0), none, false⟩,
                  ⟨(some 23), .mov (.t 3), none, false⟩,
                  ⟨(some 24), .iaddr 4 (.t 22) (.t 23), none, false⟩,
                  ⟨(some 25), .faddr 3 (.t 24), none, false⟩,
                  ⟨(some 26), .load false 1 (.t 25), none, false⟩,
                  ⟨(some 27), .len (.t 26), none, false⟩,
                  ⟨(some 28), .bin .lss (.t 21) (.t 27), none, false⟩])
                (.cond (.t 28)
                 .skip
                 (.exit 2)))
               (.seq
                (.block 3
                 (.seq
                  (.ops [⟨(some 31), .mov (.t 0), none, false⟩,
                    ⟨(some 32), .mov (.t 3), none, false⟩,
                    ⟨(some 33), .iaddr 4 (.t 31) (.t 32), none, false⟩,
                    ⟨(some 34), .faddr 3 (.t 33), none, false⟩,
                    ⟨(some 35), .load false 1 (.t 34), none, false⟩,
                    ⟨(some 36), .mov (.t 4), none, false⟩,
                    ⟨(some 37), .iaddr 2 (.t 35) (.t 36), none, false⟩,
                    ⟨(some 38), .faddr 0 (.t 37), none, false⟩,
                    ⟨(some 39), .load false 1 (.t 38), none, false⟩,
                    ⟨(some 40), .lenS (.t 39), none, false⟩,
                    ⟨(some 41), .bin .gtr (.t 40) (.c (.int .i64 (100))), none, false⟩])
                  (.cond (.t 41)
                   (.seq
                    (.ops [⟨(some 2), .mov (.c (.bool true)), none, false⟩])
                    .ret)
                   .skip)))
                (.ops [⟨(some 29), .mov (.t 4), none, false⟩,
                  ⟨(some 30), .bin .add (.t 29) (.c (.int .i64 (1))), none, false⟩,
                  ⟨(some 4), .mov (.t 30), none, false⟩]))))))))
         (.ops [⟨(some 12), .mov (.t 3), none, false⟩,
           ⟨(some 13), .bin .add (.t 12) (.c (.int .i64 (1))), none, false⟩,
           ⟨(some 3), .mov (.t 13), none, false⟩]))))))
    (.seq
     (.ops [⟨(some 2), .mov (.c (.bool false)), none, false⟩])
     .ret))))⟩
def n_wreckageref04_Great : List (List Nat) := [[0, 3], [0, 3, 4]]
theorem c_wreckageref04_Great : compFn Try.prog Try.f26 n_wreckageref04_Great = some a_wreckageref04_Great := by kernel_rfl
-- 27 slices.Equal[[]wreckage/api.Field,wreckage/api.Field]
def a_slices_Equal_api_Field_api_Field : AFunc := ⟨26, [.tmp 4],
 (.seq
  (.ops [⟨(some 4), .mov (.c (.bool false)), none, false⟩])
  (.seq
   (.seq
    (.ops [⟨(some 6), .mov (.t 0), none, false⟩,
      ⟨(some 7), .len (.t 6), none, false⟩,
      ⟨(some 8), .mov (.t 1), none, false⟩,
      ⟨(some 9), .len (.t 8), none, false⟩,
      ⟨(some 10), .bin .neq (.t 7) (.t 9), none, false⟩])
    (.cond (.t 10)
     (.seq
      (.ops [⟨(some 4), .mov (.c (.bool false)), none, false⟩])
      .ret)
     .skip))
   (.seq
    (.seq
     (.ops [⟨(some 11), .mov (.t 0), none, false⟩,
       ⟨(some 12), .len (.t 11), none, false⟩,
       ⟨(some 13), .mov (.c (.int .i64 (0))), none, false⟩])
     (.block 0
      (.loop [0, 1, 12, 13]
       (.seq
        (.ops [⟨(some 14), .bin .lss (.t 13) (.t 12), none, false⟩])
        (.seq
         (.cond (.t 14)
          .skip
          (.exit 0))
         (.seq
          (.block 1
           (.seq
            (.ops [⟨(some 15), .mov (.t 13), none, false⟩,
              ⟨(some 5), .mov (.t 15), none, false⟩])
            (.seq
             (.draw [⟨(some 16), .mov (.t 0), none, false⟩,
               ⟨(some 17), .mov (.t 5), none, false⟩,
               ⟨(some 18), .iaddr 2 (.t 16) (.t 17), none, false⟩,
               ⟨(some 19), .load true 2 (.t 18), none, false⟩,
               ⟨(some 20), .mov (.t 1), none, false⟩,
               ⟨(some 21), .mov (.t 5), none, false⟩,
               ⟨(some 22), .iaddr 2 (.t 20) (.t 21), none, false⟩,
               ⟨(some 23), .load true 2 (.t 22), none, false⟩,
               ⟨(some 24), .ext (.eqA true 2 [(0, 2), (1, 1)] (.t 19) (.t 23)), none, false⟩])
             (.cond (.t 24)
              (.seq
               (.ops [⟨(some 4), .mov (.c (.bool false)), none, false⟩])
               .ret)
              .skip))))
          (.ops [⟨(some 25), .bin .add (.t 13) (.c (.int .i64 (1))), none, false⟩,
            ⟨(some 13), .mov (.t 25), none, false⟩])))))))
    (.seq
     (.ops [⟨(some 4), .mov (.c (.bool true)), none, false⟩])
     .ret))))⟩
def n_slices_Equal_api_Field_api_Field : List (List Nat) := [[0, 1, 12, 13]]
theorem c_slices_Equal_api_Field_api_Field : compFn Try.prog Try.f27 n_slices_Equal_api_Field_api_Field = some a_slices_Equal_api_Field_api_Field := by kernel_rfl
-- 28 slices.Equal[[]wreckage/api.Instr,wreckage/api.Instr]
def a_slices_Equal_api_Instr_api_Instr : AFunc := ⟨26, [.tmp 4],
 (.seq
  (.ops [⟨(some 4), .mov (.c (.bool false)), none, false⟩])
  (.seq
   (.seq
    (.ops [⟨(some 6), .mov (.t 0), none, false⟩,
      ⟨(some 7), .len (.t 6), none, false⟩,
      ⟨(some 8), .mov (.t 1), none, false⟩,
      ⟨(some 9), .len (.t 8), none, false⟩,
      ⟨(some 10), .bin .neq (.t 7) (.t 9), none, false⟩])
    (.cond (.t 10)
     (.seq
      (.ops [⟨(some 4), .mov (.c (.bool false)), none, false⟩])
      .ret)
     .skip))
   (.seq
    (.seq
     (.ops [⟨(some 11), .mov (.t 0), none, false⟩,
       ⟨(some 12), .len (.t 11), none, false⟩,
       ⟨(some 13), .mov (.c (.int .i64 (0))), none, false⟩])
     (.block 0
      (.loop [0, 1, 12, 13]
       (.seq
        (.ops [⟨(some 14), .bin .lss (.t 13) (.t 12), none, false⟩])
        (.seq
         (.cond (.t 14)
          .skip
          (.exit 0))
         (.seq
          (.block 1
           (.seq
            (.ops [⟨(some 15), .mov (.t 13), none, false⟩,
              ⟨(some 5), .mov (.t 15), none, false⟩])
            (.seq
             (.draw [⟨(some 16), .mov (.t 0), none, false⟩,
               ⟨(some 17), .mov (.t 5), none, false⟩,
               ⟨(some 18), .iaddr 4 (.t 16) (.t 17), none, false⟩,
               ⟨(some 19), .load true 4 (.t 18), none, false⟩,
               ⟨(some 20), .mov (.t 1), none, false⟩,
               ⟨(some 21), .mov (.t 5), none, false⟩,
               ⟨(some 22), .iaddr 4 (.t 20) (.t 21), none, false⟩,
               ⟨(some 23), .load true 4 (.t 22), none, false⟩,
               ⟨(some 24), .ext (.eqA true 4 [(0, 1), (1, 1), (2, 1), (3, 1)] (.t 19) (.t 23)), none, false⟩])
             (.cond (.t 24)
              (.seq
               (.ops [⟨(some 4), .mov (.c (.bool false)), none, false⟩])
               .ret)
              .skip))))
          (.ops [⟨(some 25), .bin .add (.t 13) (.c (.int .i64 (1))), none, false⟩,
            ⟨(some 13), .mov (.t 25), none, false⟩])))))))
    (.seq
     (.ops [⟨(some 4), .mov (.c (.bool true)), none, false⟩])
     .ret))))⟩
def n_slices_Equal_api_Instr_api_Instr : List (List Nat) := [[0, 1, 12, 13]]
theorem c_slices_Equal_api_Instr_api_Instr : compFn Try.prog Try.f28 n_slices_Equal_api_Instr_api_Instr = some a_slices_Equal_api_Instr_api_Instr := by kernel_rfl
-- 29 slices.Equal[[]wreckage/api.Run,wreckage/api.Run]
def a_slices_Equal_api_Run_api_Run : AFunc := ⟨26, [.tmp 4],
 (.seq
  (.ops [⟨(some 4), .mov (.c (.bool false)), none, false⟩])
  (.seq
   (.seq
    (.ops [⟨(some 6), .mov (.t 0), none, false⟩,
      ⟨(some 7), .len (.t 6), none, false⟩,
      ⟨(some 8), .mov (.t 1), none, false⟩,
      ⟨(some 9), .len (.t 8), none, false⟩,
      ⟨(some 10), .bin .neq (.t 7) (.t 9), none, false⟩])
    (.cond (.t 10)
     (.seq
      (.ops [⟨(some 4), .mov (.c (.bool false)), none, false⟩])
      .ret)
     .skip))
   (.seq
    (.seq
     (.ops [⟨(some 11), .mov (.t 0), none, false⟩,
       ⟨(some 12), .len (.t 11), none, false⟩,
       ⟨(some 13), .mov (.c (.int .i64 (0))), none, false⟩])
     (.block 0
      (.loop [0, 1, 12, 13]
       (.seq
        (.ops [⟨(some 14), .bin .lss (.t 13) (.t 12), none, false⟩])
        (.seq
         (.cond (.t 14)
          .skip
          (.exit 0))
         (.seq
          (.block 1
           (.seq
            (.ops [⟨(some 15), .mov (.t 13), none, false⟩,
              ⟨(some 5), .mov (.t 15), none, false⟩])
            (.seq
             (.draw [⟨(some 16), .mov (.t 0), none, false⟩,
               ⟨(some 17), .mov (.t 5), none, false⟩,
               ⟨(some 18), .iaddr 2 (.t 16) (.t 17), none, false⟩,
               ⟨(some 19), .load true 2 (.t 18), none, false⟩,
               ⟨(some 20), .mov (.t 1), none, false⟩,
               ⟨(some 21), .mov (.t 5), none, false⟩,
               ⟨(some 22), .iaddr 2 (.t 20) (.t 21), none, false⟩,
               ⟨(some 23), .load true 2 (.t 22), none, false⟩,
               ⟨(some 24), .ext (.eqA true 2 [(0, 1), (1, 1)] (.t 19) (.t 23)), none, false⟩])
             (.cond (.t 24)
              (.seq
               (.ops [⟨(some 4), .mov (.c (.bool false)), none, false⟩])
               .ret)
              .skip))))
          (.ops [⟨(some 25), .bin .add (.t 13) (.c (.int .i64 (1))), none, false⟩,
            ⟨(some 13), .mov (.t 25), none, false⟩])))))))
    (.seq
     (.ops [⟨(some 4), .mov (.c (.bool true)), none, false⟩])
     .ret))))⟩
def n_slices_Equal_api_Run_api_Run : List (List Nat) := [[0, 1, 12, 13]]
theorem c_slices_Equal_api_Run_api_Run : compFn Try.prog Try.f29 n_slices_Equal_api_Run_api_Run = some a_slices_Equal_api_Run_api_Run := by kernel_rfl
-- 30 slices.Equal[[]byte,byte]
def a_slices_Equal_byte_byte : AFunc := ⟨26, [.tmp 4],
 (.seq
  (.ops [⟨(some 4), .mov (.c (.bool false)), none, false⟩])
  (.seq
   (.seq
    (.ops [⟨(some 6), .mov (.t 0), none, false⟩,
      ⟨(some 7), .len (.t 6), none, false⟩,
      ⟨(some 8), .mov (.t 1), none, false⟩,
      ⟨(some 9), .len (.t 8), none, false⟩,
      ⟨(some 10), .bin .neq (.t 7) (.t 9), none, false⟩])
    (.cond (.t 10)
     (.seq
      (.ops [⟨(some 4), .mov (.c (.bool false)), none, false⟩])
      .ret)
     .skip))
   (.seq
    (.seq
     (.ops [⟨(some 11), .mov (.t 0), none, false⟩,
       ⟨(some 12), .len (.t 11), none, false⟩,
       ⟨(some 13), .mov (.c (.int .i64 (0))), none, false⟩])
     (.block 0
      (.loop [0, 1, 12, 13]
       (.seq
        (.ops [⟨(some 14), .bin .lss (.t 13) (.t 12), none, false⟩])
        (.seq
         (.cond (.t 14)
          .skip
          (.exit 0))
         (.seq
          (.block 1
           (.seq
            (.ops [⟨(some 15), .mov (.t 13), none, false⟩,
              ⟨(some 5), .mov (.t 15), none, false⟩])
            (.seq
             (.draw [⟨(some 16), .mov (.t 0), none, false⟩,
               ⟨(some 17), .mov (.t 5), none, false⟩,
               ⟨(some 18), .iaddr 1 (.t 16) (.t 17), none, false⟩,
               ⟨(some 19), .load false 1 (.t 18), none, false⟩,
               ⟨(some 20), .mov (.t 1), none, false⟩,
               ⟨(some 21), .mov (.t 5), none, false⟩,
               ⟨(some 22), .iaddr 1 (.t 20) (.t 21), none, false⟩,
               ⟨(some 23), .load false 1 (.t 22), none, false⟩,
               ⟨(some 24), .bin .neq (.t 19) (.t 23), none, false⟩])
             (.cond (.t 24)
              (.seq
               (.ops [⟨(some 4), .mov (.c (.bool false)), none, false⟩])
               .ret)
              .skip))))
          (.ops [⟨(some 25), .bin .add (.t 13) (.c (.int .i64 (1))), none, false⟩,
            ⟨(some 13), .mov (.t 25), none, false⟩])))))))
    (.seq
     (.ops [⟨(some 4), .mov (.c (.bool true)), none, false⟩])
     .ret))))⟩
def n_slices_Equal_byte_byte : List (List Nat) := [[0, 1, 12, 13]]
theorem c_slices_Equal_byte_byte : compFn Try.prog Try.f30 n_slices_Equal_byte_byte = some a_slices_Equal_byte_byte := by kernel_rfl
-- 31 slices.Equal[[]uint64,uint64]
def a_slices_Equal_uint64_uint64 : AFunc := ⟨26, [.tmp 4],
 (.seq
  (.ops [⟨(some 4), .mov (.c (.bool false)), none, false⟩])
  (.seq
   (.seq
    (.ops [⟨(some 6), .mov (.t 0), none, false⟩,
      ⟨(some 7), .len (.t 6), none, false⟩,
      ⟨(some 8), .mov (.t 1), none, false⟩,
      ⟨(some 9), .len (.t 8), none, false⟩,
      ⟨(some 10), .bin .neq (.t 7) (.t 9), none, false⟩])
    (.cond (.t 10)
     (.seq
      (.ops [⟨(some 4), .mov (.c (.bool false)), none, false⟩])
      .ret)
     .skip))
   (.seq
    (.seq
     (.ops [⟨(some 11), .mov (.t 0), none, false⟩,
       ⟨(some 12), .len (.t 11), none, false⟩,
       ⟨(some 13), .mov (.c (.int .i64 (0))), none, false⟩])
     (.block 0
      (.loop [0, 1, 12, 13]
       (.seq
        (.ops [⟨(some 14), .bin .lss (.t 13) (.t 12), none, false⟩])
        (.seq
         (.cond (.t 14)
          .skip
          (.exit 0))
         (.seq
          (.block 1
           (.seq
            (.ops [⟨(some 15), .mov (.t 13), none, false⟩,
              ⟨(some 5), .mov (.t 15), none, false⟩])
            (.seq
             (.draw [⟨(some 16), .mov (.t 0), none, false⟩,
               ⟨(some 17), .mov (.t 5), none, false⟩,
               ⟨(some 18), .iaddr 1 (.t 16) (.t 17), none, false⟩,
               ⟨(some 19), .load false 1 (.t 18), none, false⟩,
               ⟨(some 20), .mov (.t 1), none, false⟩,
               ⟨(some 21), .mov (.t 5), none, false⟩,
               ⟨(some 22), .iaddr 1 (.t 20) (.t 21), none, false⟩,
               ⟨(some 23), .load false 1 (.t 22), none, false⟩,
               ⟨(some 24), .bin .neq (.t 19) (.t 23), none, false⟩])
             (.cond (.t 24)
              (.seq
               (.ops [⟨(some 4), .mov (.c (.bool false)), none, false⟩])
               .ret)
              .skip))))
          (.ops [⟨(some 25), .bin .add (.t 13) (.c (.int .i64 (1))), none, false⟩,
            ⟨(some 13), .mov (.t 25), none, false⟩])))))))
    (.seq
     (.ops [⟨(some 4), .mov (.c (.bool true)), none, false⟩])
     .ret))))⟩
def n_slices_Equal_uint64_uint64 : List (List Nat) := [[0, 1, 12, 13]]
theorem c_slices_Equal_uint64_uint64 : compFn Try.prog Try.f31 n_slices_Equal_uint64_uint64 = some a_slices_Equal_uint64_uint64 := by kernel_rfl
-- 32 wreckage/wreckageref04.SameTable
def a_wreckageref04_SameTable : AFunc := ⟨68, [.tmp 4],
 (.seq
  (.ops [⟨(some 4), .mov (.c (.bool false)), none, false⟩])
  (.seq
   (.seq
    (.ops [⟨(some 6), .mov (.t 0), none, false⟩,
      ⟨(some 7), .len (.t 6), none, false⟩,
      ⟨(some 8), .mov (.t 1), none, false⟩,
      ⟨(some 9), .len (.t 8), none, false⟩,
      ⟨(some 10), .bin .neq (.t 7) (.t 9), none, false⟩])
    (.cond (.t 10)
     (.seq
      (.ops [⟨(some 4), .mov (.c (.bool false)), none, false⟩])
      .ret)
     .skip))
   (.seq
    (.seq
     (.ops [⟨(some 5), .mov (.c (.int .i64 (0))), none, false⟩])
     (.block 0
      (.loop [0, 1, 5]
       (.seq
        (.seq
         (.ops [⟨(some 11), .mov (.t 5), none, false⟩,
           ⟨(some 12), .mov (.t 0), none, false⟩,
           ⟨(some 13), .len (.t 12), none, false⟩,
           ⟨(some 14), .bin .lss (.t 11) (.t 13), none, false⟩])
         (.cond (.t 14)
          .skip
          (.exit 0)))
        (.seq
         (.block 1
          (.seq
           (.draw [⟨(some 17), .mov (.t 0), none, false⟩,
             ⟨(some 18), .mov (.t 5), none, false⟩,
             ⟨(some 19), .iaddr 4 (.t 17) (.t 18), none, false⟩,
             ⟨(some 20), .faddr 0 (.t 19), none, false⟩,
             ⟨(some 21), .load false 1 (.t 20), none, false⟩,
             ⟨(some 22), .mov (.t 1), none, false⟩,
             ⟨(some 23), .mov (.t 5), none, false⟩,
             ⟨(some 24), .iaddr 4 (.t 22) (.t 23), none, false⟩,
             ⟨(some 25), .faddr 0 (.t 24), none, false⟩,
             ⟨(some 26), .load false 1 (.t 25), none, false⟩,
             ⟨(some 27), .bin .neq (.t 21) (.t 26), none, false⟩,
             ⟨(some 28), .mov (.t 27), none, false⟩,
             ⟨(some 29), .mov (.t 0), (some (28, false)), false⟩,
             ⟨(some 30), .mov (.t 5), (some (28, false)), false⟩,
             ⟨(some 31), .iaddr 4 (.t 29) (.t 30), (some (28, false)), false⟩,
             ⟨(some 32), .faddr 1 (.t 31), (some (28, false)), false⟩,
             ⟨(some 33), .load false 1 (.t 32), (some (28, false)), false⟩,
             ⟨(some 34), .mov (.t 1), (some (28, false)), false⟩,
             ⟨(some 35), .mov (.t 5), (some (28, false)), false⟩,
             ⟨(some 36), .iaddr 4 (.t 34) (.t 35), (some (28, false)), false⟩,
             ⟨(some 37), .faddr 1 (.t 36), (some (28, false)), false⟩,
             ⟨(some 38), .load false 1 (.t 37), (some (28, false)), false⟩,
             ⟨(some 39), .bin .neq (.t 33) (.t 38), (some (28, false)), false⟩,
             ⟨(some 40), .pick (.t 28) (.c (.bool true)) (.t 39), none, false⟩,
             ⟨(some 41), .mov (.t 40), none, false⟩,
             ⟨(some 42), .mov (.t 0), (some (41, false)), false⟩,
             ⟨(some 43), .mov (.t 5), (some (41, false)), false⟩,
             ⟨(some 44), .iaddr 4 (.t 42) (.t 43), (some (41, false)), false⟩,
             ⟨(some 45), .faddr 2 (.t 44), (some (41, false)), false⟩,
             ⟨(some 46), .load false 1 (.t 45), (some (41, false)), false⟩,
             ⟨(some 47), .mov (.t 1), (some (41, false)), false⟩,
             ⟨(some 48), .mov (.t 5), (some (41, false)), false⟩,
             ⟨(some 49), .iaddr 4 (.t 47) (.t 48), (some (41, false)), false⟩,
             ⟨(some 50), .faddr 2 (.t 49), (some (41, false)), false⟩,
             ⟨(some 51), .load false 1 (.t 50), (some (41, false)), false⟩,
             ⟨(some 52), .bin .neq (.t 46) (.t 51), (some (41, false)), false⟩,
             ⟨(some 53), .pick (.t 41) (.c (.bool true)) (.t 52), none, false⟩,
             ⟨(some 54), .mov (.t 53), none, false⟩,
             ⟨(some 55), .mov (.t 0), (some (54, false)), false⟩,
             ⟨(some 56), .mov (.t 5), (some (54, false)), false⟩,
             ⟨(some 57), .iaddr 4 (.t 55) (.t 56), (some (54, false)), false⟩,
             ⟨(some 58), .faddr 3 (.t 57), (some (54, false)), false⟩,
             ⟨(some 59), .load false 1 (.t 58), (some (54, false)), false⟩,
             ⟨(some 60), .mov (.t 1), (some (54, false)), false⟩,
             ⟨(some 61), .mov (.t 5), (some (54, false)), false⟩,
             ⟨(some 62), .iaddr 4 (.t 60) (.t 61), (some (54, false)), false⟩,
             ⟨(some 63), .faddr 3 (.t 62), (some (54, false)), false⟩,
             ⟨(some 64), .load false 1 (.t 63), (some (54, false)), false⟩,
             ⟨(some 65), .call (.c (.fn (.func F_wreckageref04_SameFields) [] [])) [(.t 59), (.t 64)], (some (54, false)), false⟩,
             ⟨(some 66), .un .not (.t 65), (some (54, false)), false⟩,
             ⟨(some 67), .pick (.t 54) (.c (.bool true)) (.t 66), none, false⟩])
           (.cond (.t 67)
            (.seq
             (.ops [⟨(some 4), .mov (.c (.bool false)), none, false⟩])
             .ret)
            .skip)))
         (.ops [⟨(some 15), .mov (.t 5), none, false⟩,
           ⟨(some 16), .bin .add (.t 15) (.c (.int .i64 (1))), none, false⟩,
           ⟨(some 5), .mov (.t 16), none, false⟩]))))))
    (.seq
     (.ops [⟨(some 4), .mov (.c (.bool true)), none, false⟩])
     .ret))))⟩
def n_wreckageref04_SameTable : List (List Nat) := [[0, 1, 5]]
theorem c_wreckageref04_SameTable : compFn Try.prog Try.f32 n_wreckageref04_SameTable = some a_wreckageref04_SameTable := by kernel_rfl
-- 33 wreckage/wreckageref09.SameFunc
def a_wreckageref09_SameFunc : AFunc := ⟨52, [.tmp 4],
 (.seq
  (.ops [⟨(some 2), .box 7 (.t 0), none, false⟩,
    ⟨(some 3), .box 7 (.t 1), none, false⟩,
    ⟨(some 4), .mov (.c (.bool false)), none, false⟩])
  (.seq
   (.ops [⟨(some 5), .faddr 0 (.t 2), none, false⟩,
     ⟨(some 6), .load false 1 (.t 5), none, false⟩,
     ⟨(some 7), .faddr 0 (.t 3), none, false⟩,
     ⟨(some 8), .load false 1 (.t 7), none, false⟩,
     ⟨(some 9), .bin .eql (.t 6) (.t 8), none, false⟩,
     ⟨(some 10), .mov (.t 9), none, false⟩,
     ⟨(some 11), .faddr 1 (.t 2), (some (10, true)), false⟩,
     ⟨(some 12), .load false 1 (.t 11), (some (10, true)), false⟩,
     ⟨(some 13), .faddr 1 (.t 3), (some (10, true)), false⟩,
     ⟨(some 14), .load false 1 (.t 13), (some (10, true)), false⟩,
     ⟨(some 15), .bin .eql (.t 12) (.t 14), (some (10, true)), false⟩,
     ⟨(some 16), .pick (.t 10) (.t 15) (.c (.bool false)), none, false⟩,
     ⟨(some 17), .mov (.t 16), none, false⟩,
     ⟨(some 18), .faddr 2 (.t 2), (some (17, true)), false⟩,
     ⟨(some 19), .load false 1 (.t 18), (some (17, true)), false⟩,
     ⟨(some 20), .faddr 2 (.t 3), (some (17, true)), false⟩,
     ⟨(some 21), .load false 1 (.t 20), (some (17, true)), false⟩,
     ⟨(some 22), .bin .eql (.t 19) (.t 21), (some (17, true)), false⟩,
     ⟨(some 23), .pick (.t 17) (.t 22) (.c (.bool false)), none, false⟩,
     ⟨(some 24), .mov (.t 23), none, false⟩,
     ⟨(some 25), .faddr 3 (.t 2), (some (24, true)), false⟩,
     ⟨(some 26), .load false 1 (.t 25), (some (24, true)), false⟩,
     ⟨(some 27), .faddr 3 (.t 3), (some (24, true)), false⟩,
     ⟨(some 28), .load false 1 (.t 27), (some (24, true)), false⟩,
     ⟨(some 29), .call (.c (.fn (.func F_wreckageref04_SameFields) [] [])) [(.t 26), (.t 28)], (some (24, true)), false⟩,
     ⟨(some 30), .pick (.t 24) (.t 29) (.c (.bool false)), none, false⟩,
     ⟨(some 31), .mov (.t 30), none, false⟩,
     ⟨(some 32), .faddr 4 (.t 2), (some (31, true)), false⟩,
     ⟨(some 33), .load false 1 (.t 32), (some (31, true)), false⟩,
     ⟨(some 34), .faddr 4 (.t 3), (some (31, true)), false⟩,
     ⟨(some 35), .load false 1 (.t 34), (some (31, true)), false⟩,
     ⟨(some 36), .call (.c (.fn (.func F_wreckageref07_Same) [] [])) [(.t 33), (.t 35)], (some (31, true)), false⟩,
     ⟨(some 37), .pick (.t 31) (.t 36) (.c (.bool false)), none, false⟩,
     ⟨(some 38), .mov (.t 37), none, false⟩,
     ⟨(some 39), .faddr 5 (.t 2), (some (38, true)), false⟩,
     ⟨(some 40), .load false 1 (.t 39), (some (38, true)), false⟩,
     ⟨(some 41), .faddr 5 (.t 3), (some (38, true)), false⟩,
     ⟨(some 42), .load false 1 (.t 41), (some (38, true)), false⟩,
     ⟨(some 43), .call (.c (.fn (.func F_wreckageref08_Same) [] [])) [(.t 40), (.t 42)], (some (38, true)), false⟩,
     ⟨(some 44), .pick (.t 38) (.t 43) (.c (.bool false)), none, false⟩,
     ⟨(some 45), .mov (.t 44), none, false⟩,
     ⟨(some 46), .faddr 6 (.t 2), (some (45, true)), false⟩,
     ⟨(some 47), .load false 1 (.t 46), (some (45, true)), false⟩,
     ⟨(some 48), .faddr 6 (.t 3), (some (45, true)), false⟩,
     ⟨(some 49), .load false 1 (.t 48), (some (45, true)), false⟩,
     ⟨(some 50), .call (.c (.fn (.func F_wreckageref08_Same) [] [])) [(.t 47), (.t 49)], (some (45, true)), false⟩,
     ⟨(some 51), .pick (.t 45) (.t 50) (.c (.bool false)), none, false⟩,
     ⟨(some 4), .mov (.t 51), none, false⟩])
   .ret))⟩
def n_wreckageref09_SameFunc : List (List Nat) := []
theorem c_wreckageref09_SameFunc : compFn Try.prog Try.f33 n_wreckageref09_SameFunc = some a_wreckageref09_SameFunc := by kernel_rfl
-- 34 wreckage/wreckageref27.SameList
def a_wreckageref27_SameList : AFunc := ⟨26, [.tmp 4],
 (.seq
  (.ops [⟨(some 4), .mov (.c (.bool false)), none, false⟩])
  (.seq
   (.seq
    (.ops [⟨(some 6), .mov (.t 0), none, false⟩,
      ⟨(some 7), .len (.t 6), none, false⟩,
      ⟨(some 8), .mov (.t 1), none, false⟩,
      ⟨(some 9), .len (.t 8), none, false⟩,
      ⟨(some 10), .bin .neq (.t 7) (.t 9), none, false⟩])
    (.cond (.t 10)
     (.seq
      (.ops [⟨(some 4), .mov (.c (.bool false)), none, false⟩])
      .ret)
     .skip))
   (.seq
    (.seq
     (.ops [⟨(some 5), .mov (.c (.int .i64 (0))), none, false⟩])
     (.block 0
      (.loop [0, 1, 5]
       (.seq
        (.seq
         (.ops [⟨(some 11), .mov (.t 5), none, false⟩,
           ⟨(some 12), .mov (.t 0), none, false⟩,
           ⟨(some 13), .len (.t 12), none, false⟩,
           ⟨(some 14), .bin .lss (.t 11) (.t 13), none, false⟩])
         (.cond (.t 14)
          .skip
          (.exit 0)))
        (.seq
         (.block 1
          (.seq
           (.draw [⟨(some 17), .mov (.t 0), none, false⟩,
             ⟨(some 18), .mov (.t 5), none, false⟩,
             ⟨(some 19), .iaddr 1 (.t 17) (.t 18), none, false⟩,
             ⟨(some 20), .load false 1 (.t 19), none, false⟩,
             ⟨(some 21), .mov (.t 1), none, false⟩,
             ⟨(some 22), .mov (.t 5), none, false⟩,
             ⟨(some 23), .iaddr 1 (.t 21) (.t 22), none, false⟩,
             ⟨(some 24), .load false 1 (.t 23), none, false⟩,
             ⟨(some 25), .bin .neq (.t 20) (.t 24), none, false⟩])
           (.cond (.t 25)
            (.seq
             (.ops [⟨(some 4), .mov (.c (.bool false)), none, false⟩])
             .ret)
            .skip)))
         (.ops [⟨(some 15), .mov (.t 5), none, false⟩,
           ⟨(some 16), .bin .add (.t 15) (.c (.int .i64 (1))), none, false⟩,
           ⟨(some 5), .mov (.t 16), none, false⟩]))))))
    (.seq
     (.ops [⟨(some 4), .mov (.c (.bool true)), none, false⟩])
     .ret))))⟩
def n_wreckageref27_SameList : List (List Nat) := [[0, 1, 5]]
theorem c_wreckageref27_SameList : compFn Try.prog Try.f34 n_wreckageref27_SameList = some a_wreckageref27_SameList := by kernel_rfl
-- 35 wreckage/wreckageref04.SameFields
def a_wreckageref04_SameFields : AFunc := ⟨26, [.tmp 4],
 (.seq
  (.ops [⟨(some 4), .mov (.c (.bool false)), none, false⟩])
  (.seq
   (.seq
    (.ops [⟨(some 6), .mov (.t 0), none, false⟩,
      ⟨(some 7), .len (.t 6), none, false⟩,
      ⟨(some 8), .mov (.t 1), none, false⟩,
      ⟨(some 9), .len (.t 8), none, false⟩,
      ⟨(some 10), .bin .neq (.t 7) (.t 9), none, false⟩])
    (.cond (.t 10)
     (.seq
      (.ops [⟨(some 4), .mov (.c (.bool false)), none, false⟩])
      .ret)
     .skip))
   (.seq
    (.seq
     (.ops [⟨(some 5), .mov (.c (.int .i64 (0))), none, false⟩])
     (.block 0
      (.loop [0, 1, 5]
       (.seq
        (.seq
         (.ops [⟨(some 11), .mov (.t 5), none, false⟩,
           ⟨(some 12), .mov (.t 0), none, false⟩,
           ⟨(some 13), .len (.t 12), none, false⟩,
           ⟨(some 14), .bin .lss (.t 11) (.t 13), none, false⟩])
         (.cond (.t 14)
          .skip
          (.exit 0)))
        (.seq
         (.block 1
          (.seq
           (.draw [⟨(some 17), .mov (.t 0), none, false⟩,
             ⟨(some 18), .mov (.t 5), none, false⟩,
             ⟨(some 19), .iaddr 2 (.t 17) (.t 18), none, false⟩,
             ⟨(some 20), .load true 2 (.t 19), none, false⟩,
             ⟨(some 21), .mov (.t 1), none, false⟩,
             ⟨(some 22), .mov (.t 5), none, false⟩,
             ⟨(some 23), .iaddr 2 (.t 21) (.t 22), none, false⟩,
             ⟨(some 24), .load true 2 (.t 23), none, false⟩,
             ⟨(some 25), .ext (.eqA true 2 [(0, 2), (1, 1)] (.t 20) (.t 24)), none, false⟩])
           (.cond (.t 25)
            (.seq
             (.ops [⟨(some 4), .mov (.c (.bool false)), none, false⟩])
             .ret)
            .skip)))
         (.ops [⟨(some 15), .mov (.t 5), none, false⟩,
           ⟨(some 16), .bin .add (.t 15) (.c (.int .i64 (1))), none, false⟩,
           ⟨(some 5), .mov (.t 16), none, false⟩]))))))
    (.seq
     (.ops [⟨(some 4), .mov (.c (.bool true)), none, false⟩])
     .ret))))⟩
def n_wreckageref04_SameFields : List (List Nat) := [[0, 1, 5]]
theorem c_wreckageref04_SameFields : compFn Try.prog Try.f35 n_wreckageref04_SameFields = some a_wreckageref04_SameFields := by kernel_rfl
-- 36 wreckage/wreckageref07.Same
def a_wreckageref07_Same : AFunc := ⟨26, [.tmp 4],
 (.seq
  (.ops [⟨(some 4), .mov (.c (.bool false)), none, false⟩])
  (.seq
   (.seq
    (.ops [⟨(some 6), .mov (.t 0), none, false⟩,
      ⟨(some 7), .len (.t 6), none, false⟩,
      ⟨(some 8), .mov (.t 1), none, false⟩,
      ⟨(some 9), .len (.t 8), none, false⟩,
      ⟨(some 10), .bin .neq (.t 7) (.t 9), none, false⟩])
    (.cond (.t 10)
     (.seq
      (.ops [⟨(some 4), .mov (.c (.bool false)), none, false⟩])
      .ret)
     .skip))
   (.seq
    (.seq
     (.ops [⟨(some 5), .mov (.c (.int .i64 (0))), none, false⟩])
     (.block 0
      (.loop [0, 1, 5]
       (.seq
        (.seq
         (.ops [⟨(some 11), .mov (.t 5), none, false⟩,
           ⟨(some 12), .mov (.t 0), none, false⟩,
           ⟨(some 13), .len (.t 12), none, false⟩,
           ⟨(some 14), .bin .lss (.t 11) (.t 13), none, false⟩])
         (.cond (.t 14)
          .skip
          (.exit 0)))
        (.seq
         (.block 1
          (.seq
           (.draw [⟨(some 17), .mov (.t 0), none, false⟩,
             ⟨(some 18), .mov (.t 5), none, false⟩,
             ⟨(some 19), .iaddr 4 (.t 17) (.t 18), none, false⟩,
             ⟨(some 20), .load true 4 (.t 19), none, false⟩,
             ⟨(some 21), .mov (.t 1), none, false⟩,
             ⟨(some 22), .mov (.t 5), none, false⟩,
             ⟨(some 23), .iaddr 4 (.t 21) (.t 22), none, false⟩,
             ⟨(some 24), .load true 4 (.t 23), none, false⟩,
             ⟨(some 25), .ext (.eqA true 4 [(0, 1), (1, 1), (2, 1), (3, 1)] (.t 20) (.t 24)), none, false⟩])
           (.cond (.t 25)
            (.seq
             (.ops [⟨(some 4), .mov (.c (.bool false)), none, false⟩])
             .ret)
            .skip)))
         (.ops [⟨(some 15), .mov (.t 5), none, false⟩,
           ⟨(some 16), .bin .add (.t 15) (.c (.int .i64 (1))), none, false⟩,
           ⟨(some 5), .mov (.t 16), none, false⟩]))))))
    (.seq
     (.ops [⟨(some 4), .mov (.c (.bool true)), none, false⟩])
     .ret))))⟩
def n_wreckageref07_Same : List (List Nat) := [[0, 1, 5]]
theorem c_wreckageref07_Same : compFn Try.prog Try.f36 n_wreckageref07_Same = some a_wreckageref07_Same := by kernel_rfl
-- 37 wreckage/wreckageref08.Same
def a_wreckageref08_Same : AFunc := ⟨26, [.tmp 4],
 (.seq
  (.ops [⟨(some 4), .mov (.c (.bool false)), none, false⟩])
  (.seq
   (.seq
    (.ops [⟨(some 6), .mov (.t 0), none, false⟩,
      ⟨(some 7), .len (.t 6), none, false⟩,
      ⟨(some 8), .mov (.t 1), none, false⟩,
      ⟨(some 9), .len (.t 8), none, false⟩,
      ⟨(some 10), .bin .neq (.t 7) (.t 9), none, false⟩])
    (.cond (.t 10)
     (.seq
      (.ops [⟨(some 4), .mov (.c (.bool false)), none, false⟩])
      .ret)
     .skip))
   (.seq
    (.seq
     (.ops [⟨(some 5), .mov (.c (.int .i64 (0))), none, false⟩])
     (.block 0
      (.loop [0, 1, 5]
       (.seq
        (.seq
         (.ops [⟨(some 11), .mov (.t 5), none, false⟩,
           ⟨(some 12), .mov (.t 0), none, false⟩,
           ⟨(some 13), .len (.t 12), none, false⟩,
           ⟨(some 14), .bin .lss (.t 11) (.t 13), none, false⟩])
         (.cond (.t 14)
          .skip
          (.exit 0)))
        (.seq
         (.block 1
          (.seq
           (.draw [⟨(some 17), .mov (.t 0), none, false⟩,
             ⟨(some 18), .mov (.t 5), none, false⟩,
             ⟨(some 19), .iaddr 2 (.t 17) (.t 18), none, false⟩,
             ⟨(some 20), .load true 2 (.t 19), none, false⟩,
             ⟨(some 21), .mov (.t 1), none, false⟩,
             ⟨(some 22), .mov (.t 5), none, false⟩,
             ⟨(some 23), .iaddr 2 (.t 21) (.t 22), none, false⟩,
             ⟨(some 24), .load true 2 (.t 23), none, false⟩,
             ⟨(some 25), .ext (.eqA true 2 [(0, 1), (1, 1)] (.t 20) (.t 24)), none, false⟩])
           (.cond (.t 25)
            (.seq
             (.ops [⟨(some 4), .mov (.c (.bool false)), none, false⟩])
             .ret)
            .skip)))
         (.ops [⟨(some 15), .mov (.t 5), none, false⟩,
           ⟨(some 16), .bin .add (.t 15) (.c (.int .i64 (1))), none, false⟩,
           ⟨(some 5), .mov (.t 16), none, false⟩]))))))
    (.seq
     (.ops [⟨(some 4), .mov (.c (.bool true)), none, false⟩])
     .ret))))⟩
def n_wreckageref08_Same : List (List Nat) := [[0, 1, 5]]
theorem c_wreckageref08_Same : compFn Try.prog Try.f37 n_wreckageref08_Same = some a_wreckageref08_Same := by kernel_rfl
def tab : Nat → Option AFunc
  | 3 => some a_wreckagelaw29_ParseSame
  | 4 => some a_wreckageref28_Large
  | 5 => some a_parse_Same
  | 6 => some a_wreckageref28_Same
  | 7 => some a_wreckageref28_Great
  | 8 => some a_wreckageref27_Great
  | 9 => some a_wreckageref09_Great
  | 10 => some a_slices_EqualFunc_api_Type_api_Type_api_Type_api_Type
  | 11 => some a_parse_sameType
  | 12 => some a_slices_Equal_string_string
  | 13 => some a_slices_EqualFunc_api_Func_api_Func_api_Func_api_Func
  | 14 => some a_parse_sameFunc
  | 15 => some a_parse_sameRegion
  | 16 => some a_slices_EqualFunc_api_Region_api_Region_api_Region_api_Region
  | 17 => some a_slices_Equal_api_Routine_api_Routine
  | 18 => some a_slices_EqualFunc_uint64_uint64_uint64_uint64
  | 19 => some a_parse_sameChain
  | 20 => some a_wreckageref09_Same
  | 21 => some a_wreckageref26_SameRegion
  | 22 => some a_wreckageref26_SameRegions
  | 23 => some a_wreckageref27_SameHeads
  | 24 => some a_wreckageref27_SameChains
  | 25 => some a_wreckageref26_Great
  | 26 => some a_wreckageref04_Great
  | 27 => some a_slices_Equal_api_Field_api_Field
  | 28 => some a_slices_Equal_api_Instr_api_Instr
  | 29 => some a_slices_Equal_api_Run_api_Run
  | 30 => some a_slices_Equal_byte_byte
  | 31 => some a_slices_Equal_uint64_uint64
  | 32 => some a_wreckageref04_SameTable
  | 33 => some a_wreckageref09_SameFunc
  | 34 => some a_wreckageref27_SameList
  | 35 => some a_wreckageref04_SameFields
  | 36 => some a_wreckageref07_Same
  | 37 => some a_wreckageref08_Same
  | _ => none
theorem t_wreckagelaw29_ParseSame : tab F_wreckagelaw29_ParseSame = some a_wreckagelaw29_ParseSame := rfl
theorem t_wreckageref28_Large : tab F_wreckageref28_Large = some a_wreckageref28_Large := rfl
theorem t_parse_Same : tab F_parse_Same = some a_parse_Same := rfl
theorem t_wreckageref28_Same : tab F_wreckageref28_Same = some a_wreckageref28_Same := rfl
theorem t_wreckageref28_Great : tab F_wreckageref28_Great = some a_wreckageref28_Great := rfl
theorem t_wreckageref27_Great : tab F_wreckageref27_Great = some a_wreckageref27_Great := rfl
theorem t_wreckageref09_Great : tab F_wreckageref09_Great = some a_wreckageref09_Great := rfl
theorem t_slices_EqualFunc_api_Type_api_Type_api_Type_api_Type : tab F_slices_EqualFunc_api_Type_api_Type_api_Type_api_Type = some a_slices_EqualFunc_api_Type_api_Type_api_Type_api_Type := rfl
theorem t_parse_sameType : tab F_parse_sameType = some a_parse_sameType := rfl
theorem t_slices_Equal_string_string : tab F_slices_Equal_string_string = some a_slices_Equal_string_string := rfl
theorem t_slices_EqualFunc_api_Func_api_Func_api_Func_api_Func : tab F_slices_EqualFunc_api_Func_api_Func_api_Func_api_Func = some a_slices_EqualFunc_api_Func_api_Func_api_Func_api_Func := rfl
theorem t_parse_sameFunc : tab F_parse_sameFunc = some a_parse_sameFunc := rfl
theorem t_parse_sameRegion : tab F_parse_sameRegion = some a_parse_sameRegion := rfl
theorem t_slices_EqualFunc_api_Region_api_Region_api_Region_api_Region : tab F_slices_EqualFunc_api_Region_api_Region_api_Region_api_Region = some a_slices_EqualFunc_api_Region_api_Region_api_Region_api_Region := rfl
theorem t_slices_Equal_api_Routine_api_Routine : tab F_slices_Equal_api_Routine_api_Routine = some a_slices_Equal_api_Routine_api_Routine := rfl
theorem t_slices_EqualFunc_uint64_uint64_uint64_uint64 : tab F_slices_EqualFunc_uint64_uint64_uint64_uint64 = some a_slices_EqualFunc_uint64_uint64_uint64_uint64 := rfl
theorem t_parse_sameChain : tab F_parse_sameChain = some a_parse_sameChain := rfl
theorem t_wreckageref09_Same : tab F_wreckageref09_Same = some a_wreckageref09_Same := rfl
theorem t_wreckageref26_SameRegion : tab F_wreckageref26_SameRegion = some a_wreckageref26_SameRegion := rfl
theorem t_wreckageref26_SameRegions : tab F_wreckageref26_SameRegions = some a_wreckageref26_SameRegions := rfl
theorem t_wreckageref27_SameHeads : tab F_wreckageref27_SameHeads = some a_wreckageref27_SameHeads := rfl
theorem t_wreckageref27_SameChains : tab F_wreckageref27_SameChains = some a_wreckageref27_SameChains := rfl
theorem t_wreckageref26_Great : tab F_wreckageref26_Great = some a_wreckageref26_Great := rfl
theorem t_wreckageref04_Great : tab F_wreckageref04_Great = some a_wreckageref04_Great := rfl
theorem t_slices_Equal_api_Field_api_Field : tab F_slices_Equal_api_Field_api_Field = some a_slices_Equal_api_Field_api_Field := rfl
theorem t_slices_Equal_api_Instr_api_Instr : tab F_slices_Equal_api_Instr_api_Instr = some a_slices_Equal_api_Instr_api_Instr := rfl
theorem t_slices_Equal_api_Run_api_Run : tab F_slices_Equal_api_Run_api_Run = some a_slices_Equal_api_Run_api_Run := rfl
theorem t_slices_Equal_byte_byte : tab F_slices_Equal_byte_byte = some a_slices_Equal_byte_byte := rfl
theorem t_slices_Equal_uint64_uint64 : tab F_slices_Equal_uint64_uint64 = some a_slices_Equal_uint64_uint64 := rfl
theorem t_wreckageref04_SameTable : tab F_wreckageref04_SameTable = some a_wreckageref04_SameTable := rfl
theorem t_wreckageref09_SameFunc : tab F_wreckageref09_SameFunc = some a_wreckageref09_SameFunc := rfl
theorem t_wreckageref27_SameList : tab F_wreckageref27_SameList = some a_wreckageref27_SameList := rfl
theorem t_wreckageref04_SameFields : tab F_wreckageref04_SameFields = some a_wreckageref04_SameFields := rfl
theorem t_wreckageref07_Same : tab F_wreckageref07_Same = some a_wreckageref07_Same := rfl
theorem t_wreckageref08_Same : tab F_wreckageref08_Same = some a_wreckageref08_Same := rfl
theorem tabOk : TabOk Try.prog tab := by
  intro f afn h
  unfold tab at h
  split at h
  · injection h with h; subst h; exact ⟨Try.f3, n_wreckagelaw29_ParseSame, Try.func3, c_wreckagelaw29_ParseSame⟩
  · injection h with h; subst h; exact ⟨Try.f4, n_wreckageref28_Large, Try.func4, c_wreckageref28_Large⟩
  · injection h with h; subst h; exact ⟨Try.f5, n_parse_Same, Try.func5, c_parse_Same⟩
  · injection h with h; subst h; exact ⟨Try.f6, n_wreckageref28_Same, Try.func6, c_wreckageref28_Same⟩
  · injection h with h; subst h; exact ⟨Try.f7, n_wreckageref28_Great, Try.func7, c_wreckageref28_Great⟩
  · injection h with h; subst h; exact ⟨Try.f8, n_wreckageref27_Great, Try.func8, c_wreckageref27_Great⟩
  · injection h with h; subst h; exact ⟨Try.f9, n_wreckageref09_Great, Try.func9, c_wreckageref09_Great⟩
  · injection h with h; subst h; exact ⟨Try.f10, n_slices_EqualFunc_api_Type_api_Type_api_Type_api_Type, Try.func10, c_slices_EqualFunc_api_Type_api_Type_api_Type_api_Type⟩
  · injection h with h; subst h; exact ⟨Try.f11, n_parse_sameType, Try.func11, c_parse_sameType⟩
  · injection h with h; subst h; exact ⟨Try.f12, n_slices_Equal_string_string, Try.func12, c_slices_Equal_string_string⟩
  · injection h with h; subst h; exact ⟨Try.f13, n_slices_EqualFunc_api_Func_api_Func_api_Func_api_Func, Try.func13, c_slices_EqualFunc_api_Func_api_Func_api_Func_api_Func⟩
  · injection h with h; subst h; exact ⟨Try.f14, n_parse_sameFunc, Try.func14, c_parse_sameFunc⟩
  · injection h with h; subst h; exact ⟨Try.f15, n_parse_sameRegion, Try.func15, c_parse_sameRegion⟩
  · injection h with h; subst h; exact ⟨Try.f16, n_slices_EqualFunc_api_Region_api_Region_api_Region_api_Region, Try.func16, c_slices_EqualFunc_api_Region_api_Region_api_Region_api_Region⟩
  · injection h with h; subst h; exact ⟨Try.f17, n_slices_Equal_api_Routine_api_Routine, Try.func17, c_slices_Equal_api_Routine_api_Routine⟩
  · injection h with h; subst h; exact ⟨Try.f18, n_slices_EqualFunc_uint64_uint64_uint64_uint64, Try.func18, c_slices_EqualFunc_uint64_uint64_uint64_uint64⟩
  · injection h with h; subst h; exact ⟨Try.f19, n_parse_sameChain, Try.func19, c_parse_sameChain⟩
  · injection h with h; subst h; exact ⟨Try.f20, n_wreckageref09_Same, Try.func20, c_wreckageref09_Same⟩
  · injection h with h; subst h; exact ⟨Try.f21, n_wreckageref26_SameRegion, Try.func21, c_wreckageref26_SameRegion⟩
  · injection h with h; subst h; exact ⟨Try.f22, n_wreckageref26_SameRegions, Try.func22, c_wreckageref26_SameRegions⟩
  · injection h with h; subst h; exact ⟨Try.f23, n_wreckageref27_SameHeads, Try.func23, c_wreckageref27_SameHeads⟩
  · injection h with h; subst h; exact ⟨Try.f24, n_wreckageref27_SameChains, Try.func24, c_wreckageref27_SameChains⟩
  · injection h with h; subst h; exact ⟨Try.f25, n_wreckageref26_Great, Try.func25, c_wreckageref26_Great⟩
  · injection h with h; subst h; exact ⟨Try.f26, n_wreckageref04_Great, Try.func26, c_wreckageref04_Great⟩
  · injection h with h; subst h; exact ⟨Try.f27, n_slices_Equal_api_Field_api_Field, Try.func27, c_slices_Equal_api_Field_api_Field⟩
  · injection h with h; subst h; exact ⟨Try.f28, n_slices_Equal_api_Instr_api_Instr, Try.func28, c_slices_Equal_api_Instr_api_Instr⟩
  · injection h with h; subst h; exact ⟨Try.f29, n_slices_Equal_api_Run_api_Run, Try.func29, c_slices_Equal_api_Run_api_Run⟩
  · injection h with h; subst h; exact ⟨Try.f30, n_slices_Equal_byte_byte, Try.func30, c_slices_Equal_byte_byte⟩
  · injection h with h; subst h; exact ⟨Try.f31, n_slices_Equal_uint64_uint64, Try.func31, c_slices_Equal_uint64_uint64⟩
  · injection h with h; subst h; exact ⟨Try.f32, n_wreckageref04_SameTable, Try.func32, c_wreckageref04_SameTable⟩
  · injection h with h; subst h; exact ⟨Try.f33, n_wreckageref09_SameFunc, Try.func33, c_wreckageref09_SameFunc⟩
  · injection h with h; subst h; exact ⟨Try.f34, n_wreckageref27_SameList, Try.func34, c_wreckageref27_SameList⟩
  · injection h with h; subst h; exact ⟨Try.f35, n_wreckageref04_SameFields, Try.func35, c_wreckageref04_SameFields⟩
  · injection h with h; subst h; exact ⟨Try.f36, n_wreckageref07_Same, Try.func36, c_wreckageref07_Same⟩
  · injection h with h; subst h; exact ⟨Try.f37, n_wreckageref08_Same, Try.func37, c_wreckageref08_Same⟩
  · cases h
end Go.Proofs.W
