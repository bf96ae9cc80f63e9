/-
  /opt/kit/tree/Derived/Test/L1Code.lean: the functions of this seat, compiled (printed by program).
-/
import Derived.Test.YtoalamckcmjmcaaVsx
import Derived.Test.YtoalamckcmjmcaaProg
import Derived.KernelRfl
namespace Go.Proofs.L1
open Go.Vs
set_option maxRecDepth 100000
-- 3 wreckage/wreckagelaw32.LocalsTells
def a3 : AFunc := ⟨24, [.tmp 2],
 (.seq
  (.ops [⟨(some 1), .box 5 (.t 0), none, false⟩,
    ⟨(some 2), .mov (.c (.bool false)), none, false⟩])
  (.seq
   (.seq
    (.ops [⟨(some 3), .load true 5 (.t 1), none, false⟩,
      ⟨(some 4), .call (.c (.fn (.func 4) [] [])) [(.t 3)], none, false⟩])
    (.cond (.t 4)
     (.seq
      (.ops [⟨(some 2), .mov (.c (.bool true)), none, false⟩])
      .ret)
     .skip))
   (.seq
    (.draw [⟨(some 5), .load true 5 (.t 1), none, false⟩,
      ⟨(some 6), .call (.c (.fn (.func 5) [] [])) [(.t 5)], none, false⟩,
      ⟨(some 7), .load true 5 (.t 1), none, true⟩,
      ⟨(some 8), .call (.c (.fn (.func 6) [] [])) [(.t 7)], none, false⟩,
      ⟨(some 9), .bin .eql (.t 6) (.t 8), none, false⟩,
      ⟨(some 10), .mov (.t 9), none, false⟩,
      ⟨(some 11), .load true 5 (.t 1), (some (10, true)), false⟩,
      ⟨(some 12), .call (.c (.fn (.func 7) [] [])) [(.t 11)], (some (10, true)), false⟩,
      ⟨(some 13), .load true 5 (.t 1), (some (10, true)), true⟩,
      ⟨(some 14), .call (.c (.fn (.func 8) [] [])) [(.t 13)], (some (10, true)), false⟩,
      ⟨(some 15), .bin .eql (.t 12) (.t 14), (some (10, true)), false⟩,
      ⟨(some 16), .pick (.t 10) (.t 15) (.c (.bool false)), none, false⟩,
      ⟨(some 17), .mov (.t 16), none, false⟩,
      ⟨(some 18), .load true 5 (.t 1), (some (17, true)), false⟩,
      ⟨(some 19), .call (.c (.fn (.func 9) [] [])) [(.t 18)], (some (17, true)), false⟩,
      ⟨(some 20), .load true 5 (.t 1), (some (17, true)), true⟩,
      ⟨(some 21), .call (.c (.fn (.func 10) [] [])) [(.t 20)], (some (17, true)), false⟩,
      ⟨(some 22), .beq false (.t 19) (.t 21), (some (17, true)), false⟩,
      ⟨(some 23), .pick (.t 17) (.t 22) (.c (.bool false)), none, false⟩,
      ⟨(some 2), .mov (.t 23), none, false⟩])
    .ret)))⟩
def n3 : List (List Nat) := []
theorem c3 : compFn Try.prog Try.f3 n3 = some a3 := by kernel_rfl
-- 4 wreckage/wreckageref32.Heavy
def a4 : AFunc := ⟨10, [.tmp 2],
 (.seq
  (.ops [⟨(some 1), .box 5 (.t 0), none, false⟩,
    ⟨(some 2), .mov (.c (.bool false)), none, false⟩])
  (.seq
   (.ops [⟨(some 3), .load true 5 (.t 1), none, false⟩,
     ⟨(some 4), .call (.c (.fn (.func 11) [] [])) [(.t 3), (.c (.int .i64 (200)))], none, false⟩,
     ⟨(some 5), .mov (.t 4), none, false⟩,
     ⟨(some 6), .load true 5 (.t 1), (some (5, false)), false⟩,
     ⟨(some 7), .call (.c (.fn (.func 12) [] [])) [(.t 6), (.c (.int .i64 (6000)))], (some (5, false)), false⟩,
     ⟨(some 8), .bin .gtr (.t 7) (.c (.int .i64 (6000))), (some (5, false)), false⟩,
     ⟨(some 9), .pick (.t 5) (.c (.bool true)) (.t 8), none, false⟩,
     ⟨(some 2), .mov (.t 9), none, false⟩])
   .ret))⟩
def n4 : List (List Nat) := []
theorem c4 : compFn Try.prog Try.f4 n4 = some a4 := by kernel_rfl
-- 5 wreckage/locals.Weight
def a5 : AFunc := ⟨8, [.tmp 2],
 (.seq
  (.ops [⟨(some 1), .box 5 (.t 0), none, false⟩,
    ⟨(some 2), .mov (.c (.int .i64 (0))), none, false⟩])
  (.seq
   (.ops [⟨(some 3), .alloc [.int .i64 (0)], none, false⟩,
     ⟨none, .store 1 (.t 3) (.c (.int .i64 (0))), none, false⟩])
   (.seq
    (.ops [⟨(some 4), .load true 5 (.t 1), none, false⟩,
      ⟨(some 5), .mkfn (.func 14) [] [(.t 3)], none, false⟩,
      ⟨(some 6), .call (.c (.fn (.func 13) [] [])) [(.t 4), (.t 5)], none, false⟩])
    (.seq
     (.ops [⟨(some 7), .load false 1 (.t 3), none, false⟩,
       ⟨(some 2), .mov (.t 7), none, false⟩])
     .ret))))⟩
def n5 : List (List Nat) := []
theorem c5 : compFn Try.prog Try.f5 n5 = some a5 := by kernel_rfl
-- 6 wreckage/wreckageref32.Weight
def a6 : AFunc := ⟨21, [.tmp 2],
 (.seq
  (.ops [⟨(some 1), .box 5 (.t 0), none, false⟩,
    ⟨(some 2), .mov (.c (.int .i64 (0))), none, false⟩])
  (.seq
   (.ops [⟨(some 3), .mov (.c (.int .i64 (1))), none, false⟩])
   (.seq
    (.seq
     (.ops [⟨(some 4), .mov (.c (.int .i64 (0))), none, false⟩])
     (.block 0
      (.loop [1, 3, 4]
       (.seq
        (.seq
         (.ops [⟨(some 5), .mov (.t 4), none, false⟩,
           ⟨(some 6), .faddr 3 (.t 1), none, false⟩,
           ⟨(some 7), .load false 1 (.t 6), none, false⟩,
           ⟨(some 8), .len (.t 7), none, false⟩,
           ⟨(some 9), .bin .lss (.t 5) (.t 8), none, false⟩])
         (.cond (.t 9)
          .skip
          (.exit 0)))
        (.seq
         (.block 1
          (.ops [⟨(some 12), .mov (.t 3), none, false⟩,
            ⟨(some 13), .faddr 3 (.t 1), none, false⟩,
            ⟨(some 14), .load false 1 (.t 13), none, false⟩,
            ⟨(some 15), .mov (.t 4), none, false⟩,
            ⟨(some 16), .iaddr 5 (.t 14) (.t 15), none, false⟩,
            ⟨(some 17), .load true 5 (.t 16), none, false⟩,
            ⟨(some 18), .call (.c (.fn (.func 6) [] [])) [(.t 17)], none, false⟩,
            ⟨(some 19), .bin .add (.t 12) (.t 18), none, false⟩,
            ⟨(some 3), .mov (.t 19), none, false⟩]))
         (.ops [⟨(some 10), .mov (.t 4), none, false⟩,
           ⟨(some 11), .bin .add (.t 10) (.c (.int .i64 (1))), none, false⟩,
           ⟨(some 4), .mov (.t 11), none, false⟩]))))))
    (.seq
     (.ops [⟨(some 20), .mov (.t 3), none, false⟩,
       ⟨(some 2), .mov (.t 20), none, false⟩])
     .ret))))⟩
def n6 : List (List Nat) := [[1, 3, 4]]
theorem c6 : compFn Try.prog Try.f6 n6 = some a6 := by kernel_rfl
-- 7 wreckage/locals.Reach
def a7 : AFunc := ⟨5, [.tmp 2],
 (.seq
  (.ops [⟨(some 1), .box 5 (.t 0), none, false⟩,
    ⟨(some 2), .mov (.c (.int .i64 (0))), none, false⟩])
  (.seq
   (.ops [⟨(some 3), .load true 5 (.t 1), none, false⟩,
     ⟨(some 4), .call (.c (.fn (.func 13) [] [])) [(.t 3), (.c (.fn (.func 15) [] []))], none, false⟩,
     ⟨(some 2), .mov (.t 4), none, false⟩])
   .ret))⟩
def n7 : List (List Nat) := []
theorem c7 : compFn Try.prog Try.f7 n7 = some a7 := by kernel_rfl
-- 8 wreckage/wreckageref32.Reach
def a8 : AFunc := ⟨37, [.tmp 2],
 (.seq
  (.ops [⟨(some 1), .box 5 (.t 0), none, false⟩,
    ⟨(some 2), .mov (.c (.int .i64 (0))), none, false⟩])
  (.seq
   (.ops [⟨(some 3), .mov (.c (.int .i64 (0))), none, false⟩])
   (.seq
    (.seq
     (.ops [⟨(some 4), .mov (.c (.int .i64 (0))), none, false⟩])
     (.block 0
      (.loop [1, 3, 4]
       (.seq
        (.seq
         (.ops [⟨(some 5), .mov (.t 4), none, false⟩,
           ⟨(some 6), .faddr 3 (.t 1), none, false⟩,
           ⟨(some 7), .load false 1 (.t 6), none, false⟩,
           ⟨(some 8), .len (.t 7), none, false⟩,
           ⟨(some 9), .bin .lss (.t 5) (.t 8), none, false⟩])
         (.cond (.t 9)
          .skip
          (.exit 0)))
        (.seq
         (.block 1
          (.ops [⟨(some 12), .mov (.t 3), none, false⟩,
            ⟨(some 13), .faddr 3 (.t 1), none, false⟩,
            ⟨(some 14), .load false 1 (.t 13), none, false⟩,
            ⟨(some 15), .mov (.t 4), none, false⟩,
            ⟨(some 16), .iaddr 5 (.t 14) (.t 15), none, false⟩,
            ⟨(some 17), .load true 5 (.t 16), none, false⟩,
            ⟨(some 18), .call (.c (.fn (.func 8) [] [])) [(.t 17)], none, false⟩,
            ⟨(some 19), .mx (.t 12) (.t 18), none, false⟩,
            ⟨(some 3), .mov (.t 19), none, false⟩]))
         (.ops [⟨(some 10), .mov (.t 4), none, false⟩,
           ⟨(some 11), .bin .add (.t 10) (.c (.int .i64 (1))), none, false⟩,
           ⟨(some 4), .mov (.t 11), none, false⟩]))))))
    (.seq
     (.seq
      (.ops [⟨(some 20), .faddr 3 (.t 1), none, false⟩,
        ⟨(some 21), .load false 1 (.t 20), none, false⟩,
        ⟨(some 22), .len (.t 21), none, false⟩,
        ⟨(some 23), .bin .gtr (.t 22) (.c (.int .i64 (0))), none, false⟩,
        ⟨(some 24), .mov (.t 23), none, false⟩,
        ⟨(some 25), .faddr 0 (.t 1), (some (24, true)), false⟩,
        ⟨(some 26), .load false 1 (.t 25), (some (24, true)), false⟩,
        ⟨(some 27), .bin .eql (.t 26) (.c (.int .u8 (4))), (some (24, true)), false⟩,
        ⟨(some 28), .mov (.t 27), (some (24, true)), false⟩,
        ⟨(some 29), .faddr 0 (.t 1), (some (28, false)), false⟩,
        ⟨(some 30), .load false 1 (.t 29), (some (28, false)), false⟩,
        ⟨(some 31), .bin .eql (.t 30) (.c (.int .u8 (7))), (some (28, false)), false⟩,
        ⟨(some 32), .pick (.t 28) (.c (.bool true)) (.t 31), (some (24, true)), false⟩,
        ⟨(some 33), .pick (.t 24) (.t 32) (.c (.bool false)), none, false⟩])
      (.cond (.t 33)
       (.ops [⟨(some 34), .mov (.t 3), none, false⟩,
         ⟨(some 35), .bin .add (.t 34) (.c (.int .i64 (1))), none, false⟩,
         ⟨(some 3), .mov (.t 35), none, false⟩])
       .skip))
     (.seq
      (.ops [⟨(some 36), .mov (.t 3), none, false⟩,
        ⟨(some 2), .mov (.t 36), none, false⟩])
      .ret)))))⟩
def n8 : List (List Nat) := [[1, 3, 4]]
theorem c8 : compFn Try.prog Try.f8 n8 = some a8 := by kernel_rfl
-- 9 wreckage/locals.Cut
def a9 : AFunc := ⟨8, [.tmp 2],
 (.seq
  (.ops [⟨(some 1), .box 5 (.t 0), none, false⟩,
    ⟨(some 2), .mov (.c (.bool false)), none, false⟩])
  (.seq
   (.ops [⟨(some 3), .alloc [.bool false], none, false⟩,
     ⟨none, .store 1 (.t 3) (.c (.bool false)), none, false⟩])
   (.seq
    (.ops [⟨(some 4), .load true 5 (.t 1), none, false⟩,
      ⟨(some 5), .mkfn (.func 16) [] [(.t 3)], none, false⟩,
      ⟨(some 6), .call (.c (.fn (.func 13) [] [])) [(.t 4), (.t 5)], none, false⟩])
    (.seq
     (.ops [⟨(some 7), .load false 1 (.t 3), none, false⟩,
       ⟨(some 2), .mov (.t 7), none, false⟩])
     .ret))))⟩
def n9 : List (List Nat) := []
theorem c9 : compFn Try.prog Try.f9 n9 = some a9 := by kernel_rfl
-- 10 wreckage/wreckageref32.Cut
def a10 : AFunc := ⟨19, [.tmp 2],
 (.seq
  (.ops [⟨(some 1), .box 5 (.t 0), none, false⟩,
    ⟨(some 2), .mov (.c (.bool false)), none, false⟩])
  (.seq
   (.seq
    (.ops [⟨(some 3), .mov (.c (.int .i64 (0))), none, false⟩])
    (.block 0
     (.loop [1, 3]
      (.seq
       (.seq
        (.ops [⟨(some 4), .mov (.t 3), none, false⟩,
          ⟨(some 5), .faddr 3 (.t 1), none, false⟩,
          ⟨(some 6), .load false 1 (.t 5), none, false⟩,
          ⟨(some 7), .len (.t 6), none, false⟩,
          ⟨(some 8), .bin .lss (.t 4) (.t 7), none, false⟩])
        (.cond (.t 8)
         .skip
         (.exit 0)))
       (.seq
        (.block 1
         (.seq
          (.ops [⟨(some 11), .faddr 3 (.t 1), none, false⟩,
            ⟨(some 12), .load false 1 (.t 11), none, false⟩,
            ⟨(some 13), .mov (.t 3), none, false⟩,
            ⟨(some 14), .iaddr 5 (.t 12) (.t 13), none, false⟩,
            ⟨(some 15), .load true 5 (.t 14), none, false⟩,
            ⟨(some 16), .call (.c (.fn (.func 10) [] [])) [(.t 15)], none, false⟩])
          (.cond (.t 16)
           (.seq
            (.ops [⟨(some 2), .mov (.c (.bool true)), none, false⟩])
            .ret)
           .skip)))
        (.ops [⟨(some 9), .mov (.t 3), none, false⟩,
          ⟨(some 10), .bin .add (.t 9) (.c (.int .i64 (1))), none, false⟩,
          ⟨(some 3), .mov (.t 10), none, false⟩]))))))
   (.seq
    (.ops [⟨(some 17), .faddr 4 (.t 1), none, false⟩,
      ⟨(some 18), .load false 1 (.t 17), none, false⟩,
      ⟨(some 2), .mov (.t 18), none, false⟩])
    .ret)))⟩
def n10 : List (List Nat) := [[1, 3]]
theorem c10 : compFn Try.prog Try.f10 n10 = some a10 := by kernel_rfl
-- 11 wreckage/wreckageref32.deep
def a11 : AFunc := ⟨25, [.tmp 4],
 (.seq
  (.ops [⟨(some 2), .box 5 (.t 0), none, false⟩,
    ⟨(some 4), .mov (.c (.bool false)), none, false⟩])
  (.seq
   (.seq
    (.ops [⟨(some 5), .mov (.c (.int .i64 (0))), none, false⟩])
    (.block 0
     (.loop [1, 2, 5]
      (.seq
       (.seq
        (.ops [⟨(some 6), .mov (.t 5), none, false⟩,
          ⟨(some 7), .faddr 3 (.t 2), none, false⟩,
          ⟨(some 8), .load false 1 (.t 7), none, false⟩,
          ⟨(some 9), .len (.t 8), none, false⟩,
          ⟨(some 10), .bin .lss (.t 6) (.t 9), none, false⟩])
        (.cond (.t 10)
         .skip
         (.exit 0)))
       (.seq
        (.block 1
         (.seq
          (.ops [⟨(some 13), .mov (.t 1), none, false⟩,
            ⟨(some 14), .bin .eql (.t 13) (.c (.int .i64 (0))), none, false⟩,
            ⟨(some 15), .mov (.t 14), none, false⟩,
            ⟨(some 16), .faddr 3 (.t 2), (some (15, false)), false⟩,
            ⟨(some 17), .load false 1 (.t 16), (some (15, false)), false⟩,
            ⟨(some 18), .mov (.t 5), (some (15, false)), false⟩,
            ⟨(some 19), .iaddr 5 (.t 17) (.t 18), (some (15, false)), false⟩,
            ⟨(some 20), .load true 5 (.t 19), (some (15, false)), false⟩,
            ⟨(some 21), .mov (.t 1), (some (15, false)), false⟩,
            ⟨(some 22), .bin .sub (.t 21) (.c (.int .i64 (1))), (some (15, false)), false⟩,
            ⟨(some 23), .call (.c (.fn (.func 11) [] [])) [(.t 20), (.t 22)], (some (15, false)), false⟩,
            ⟨(some 24), .pick (.t 15) (.c (.bool true)) (.t 23), none, false⟩])
          (.cond (.t 24)
           (.seq
            (.ops [⟨(some 4), .mov (.c (.bool true)), none, false⟩])
            .ret)
           .skip)))
        (.ops [⟨(some 11), .mov (.t 5), none, false⟩,
          ⟨(some 12), .bin .add (.t 11) (.c (.int .i64 (1))), none, false⟩,
          ⟨(some 5), .mov (.t 12), none, false⟩]))))))
   (.seq
    (.ops [⟨(some 4), .mov (.c (.bool false)), none, false⟩])
    .ret)))⟩
def n11 : List (List Nat) := [[1, 2, 5]]
theorem c11 : compFn Try.prog Try.f11 n11 = some a11 := by kernel_rfl
-- 12 wreckage/wreckageref15.Count
def a12 : AFunc := ⟨31, [.tmp 4],
 (.seq
  (.ops [⟨(some 2), .box 5 (.t 0), none, false⟩,
    ⟨(some 4), .mov (.c (.int .i64 (0))), none, false⟩])
  (.seq
   (.ops [⟨(some 5), .mov (.c (.int .i64 (1))), none, false⟩])
   (.seq
    (.seq
     (.ops [⟨(some 6), .mov (.c (.int .i64 (0))), none, false⟩])
     (.block 0
      (.loop [1, 2, 5, 6]
       (.seq
        (.seq
         (.ops [⟨(some 7), .mov (.t 6), none, false⟩,
           ⟨(some 8), .faddr 3 (.t 2), none, false⟩,
           ⟨(some 9), .load false 1 (.t 8), none, false⟩,
           ⟨(some 10), .len (.t 9), none, false⟩,
           ⟨(some 11), .bin .lss (.t 7) (.t 10), none, false⟩,
           ⟨(some 12), .mov (.t 11), none, false⟩,
           ⟨(some 13), .mov (.t 5), (some (12, true)), false⟩,
           ⟨(some 14), .mov (.t 1), (some (12, true)), false⟩,
           ⟨(some 15), .bin .leq (.t 13) (.t 14), (some (12, true)), false⟩,
           ⟨(some 16), .pick (.t 12) (.t 15) (.c (.bool false)), none, false⟩])
         (.cond (.t 16)
          .skip
          (.exit 0)))
        (.seq
         (.block 1
          (.ops [⟨(some 19), .mov (.t 5), none, false⟩,
            ⟨(some 20), .faddr 3 (.t 2), none, false⟩,
            ⟨(some 21), .load false 1 (.t 20), none, false⟩,
            ⟨(some 22), .mov (.t 6), none, false⟩,
            ⟨(some 23), .iaddr 5 (.t 21) (.t 22), none, false⟩,
            ⟨(some 24), .load true 5 (.t 23), none, false⟩,
            ⟨(some 25), .mov (.t 1), none, false⟩,
            ⟨(some 26), .mov (.t 5), none, false⟩,
            ⟨(some 27), .bin .sub (.t 25) (.t 26), none, false⟩,
            ⟨(some 28), .call (.c (.fn (.func 12) [] [])) [(.t 24), (.t 27)], none, false⟩,
            ⟨(some 29), .bin .add (.t 19) (.t 28), none, false⟩,
            ⟨(some 5), .mov (.t 29), none, false⟩]))
         (.ops [⟨(some 17), .mov (.t 6), none, false⟩,
           ⟨(some 18), .bin .add (.t 17) (.c (.int .i64 (1))), none, false⟩,
           ⟨(some 6), .mov (.t 18), none, false⟩]))))))
    (.seq
     (.ops [⟨(some 30), .mov (.t 5), none, false⟩,
       ⟨(some 4), .mov (.t 30), none, false⟩])
     .ret))))⟩
def n12 : List (List Nat) := [[1, 2, 5, 6]]
theorem c12 : compFn Try.prog Try.f12 n12 = some a12 := by kernel_rfl
-- 13 wreckage/locals.each
def a13 : AFunc := ⟨10, [.tmp 4],
 (.seq
  (.ops [⟨(some 2), .box 5 (.t 0), none, false⟩,
    ⟨(some 3), .box 1 (.t 1), none, false⟩,
    ⟨(some 4), .mov (.c (.int .i64 (0))), none, false⟩])
  (.seq
   (.ops [⟨(some 5), .alloc [.nilfn], none, false⟩])
   (.seq
    (.ops [⟨(some 6), .mkfn (.func 17) [] [(.t 5), (.t 3)], none, false⟩,
      ⟨none, .store 1 (.t 5) (.t 6), none, false⟩])
    (.seq
     (.ops [⟨(some 7), .load false 1 (.t 5), none, false⟩,
       ⟨(some 8), .load true 5 (.t 2), none, false⟩,
       ⟨(some 9), .call (.t 7) [(.t 8)], none, false⟩,
       ⟨(some 4), .mov (.t 9), none, false⟩])
     .ret))))⟩
def n13 : List (List Nat) := []
theorem c13 : compFn Try.prog Try.f13 n13 = some a13 := by kernel_rfl
-- 14 wreckage/locals.Weight$1
def a14 : AFunc := ⟨8, [.tmp 5],
 (.seq
  (.ops [⟨(some 3), .box 5 (.t 0), none, false⟩,
    ⟨(some 5), .mov (.c (.int .i64 (0))), none, false⟩])
  (.seq
   (.ops [⟨(some 6), .load false 1 (.t 2), none, false⟩,
     ⟨(some 7), .bin .add (.t 6) (.c (.int .i64 (1))), none, false⟩,
     ⟨none, .store 1 (.t 2) (.t 7), none, false⟩])
   (.seq
    (.ops [⟨(some 5), .mov (.c (.int .i64 (0))), none, false⟩])
    .ret)))⟩
def n14 : List (List Nat) := []
theorem c14 : compFn Try.prog Try.f14 n14 = some a14 := by kernel_rfl
-- 15 wreckage/locals.Reach$1
def a15 : AFunc := ⟨22, [.tmp 4],
 (.seq
  (.ops [⟨(some 2), .box 5 (.t 0), none, false⟩,
    ⟨(some 4), .mov (.c (.int .i64 (0))), none, false⟩])
  (.seq
   (.seq
    (.ops [⟨(some 5), .faddr 3 (.t 2), none, false⟩,
      ⟨(some 6), .load false 1 (.t 5), none, false⟩,
      ⟨(some 7), .len (.t 6), none, false⟩,
      ⟨(some 8), .bin .gtr (.t 7) (.c (.int .i64 (0))), none, false⟩,
      ⟨(some 9), .mov (.t 8), none, false⟩,
      ⟨(some 10), .faddr 0 (.t 2), (some (9, true)), false⟩,
      ⟨(some 11), .load false 1 (.t 10), (some (9, true)), false⟩,
      ⟨(some 12), .bin .eql (.t 11) (.c (.int .u8 (4))), (some (9, true)), false⟩,
      ⟨(some 13), .mov (.t 12), (some (9, true)), false⟩,
      ⟨(some 14), .faddr 0 (.t 2), (some (13, false)), false⟩,
      ⟨(some 15), .load false 1 (.t 14), (some (13, false)), false⟩,
      ⟨(some 16), .bin .eql (.t 15) (.c (.int .u8 (7))), (some (13, false)), false⟩,
      ⟨(some 17), .pick (.t 13) (.c (.bool true)) (.t 16), (some (9, true)), false⟩,
      ⟨(some 18), .pick (.t 9) (.t 17) (.c (.bool false)), none, false⟩])
    (.cond (.t 18)
     (.seq
      (.ops [⟨(some 19), .mov (.t 1), none, false⟩,
        ⟨(some 20), .bin .add (.t 19) (.c (.int .i64 (1))), none, false⟩,
        ⟨(some 4), .mov (.t 20), none, false⟩])
      .ret)
     .skip))
   (.seq
    (.ops [⟨(some 21), .mov (.t 1), none, false⟩,
      ⟨(some 4), .mov (.t 21), none, false⟩])
    .ret)))⟩
def n15 : List (List Nat) := []
theorem c15 : compFn Try.prog Try.f15 n15 = some a15 := by kernel_rfl
-- 16 wreckage/locals.Cut$1
def a16 : AFunc := ⟨11, [.tmp 5],
 (.seq
  (.ops [⟨(some 3), .box 5 (.t 0), none, false⟩,
    ⟨(some 5), .mov (.c (.int .i64 (0))), none, false⟩])
  (.seq
   (.ops [⟨(some 6), .load false 1 (.t 2), none, false⟩,
     ⟨(some 7), .mov (.t 6), none, false⟩,
     ⟨(some 8), .faddr 4 (.t 3), (some (7, false)), false⟩,
     ⟨(some 9), .load false 1 (.t 8), (some (7, false)), false⟩,
     ⟨(some 10), .pick (.t 7) (.c (.bool true)) (.t 9), none, false⟩,
     ⟨none, .store 1 (.t 2) (.t 10), none, false⟩])
   (.seq
    (.ops [⟨(some 5), .mov (.c (.int .i64 (0))), none, false⟩])
    .ret)))⟩
def n16 : List (List Nat) := []
theorem c16 : compFn Try.prog Try.f16 n16 = some a16 := by kernel_rfl
-- 17 wreckage/locals.each$1
def a17 : AFunc := ⟨25, [.tmp 4],
 (.seq
  (.ops [⟨(some 3), .box 5 (.t 0), none, false⟩,
    ⟨(some 4), .mov (.c (.int .i64 (0))), none, false⟩])
  (.seq
   (.ops [⟨(some 5), .mov (.c (.int .i64 (0))), none, false⟩])
   (.seq
    (.seq
     (.ops [⟨(some 8), .faddr 3 (.t 3), none, false⟩,
       ⟨(some 9), .load false 1 (.t 8), none, false⟩,
       ⟨(some 10), .len (.t 9), none, false⟩,
       ⟨(some 11), .mov (.c (.int .i64 (0))), none, false⟩])
     (.block 0
      (.loop [1, 2, 3, 5, 9, 10, 11]
       (.seq
        (.ops [⟨(some 12), .bin .lss (.t 11) (.t 10), none, false⟩])
        (.seq
         (.cond (.t 12)
          .skip
          (.exit 0))
         (.seq
          (.block 1
           (.seq
            (.ops [⟨(some 13), .iaddr 5 (.t 9) (.t 11), none, false⟩,
              ⟨(some 14), .load true 5 (.t 13), none, false⟩,
              ⟨(some 7), .alloc [.int .u8 (0), .int .i64 (0), .str [], .nils, .bool false], none, false⟩,
              ⟨none, .store 5 (.t 7) (.t 14), none, false⟩])
            (.ops [⟨(some 15), .mov (.t 5), none, false⟩,
              ⟨(some 16), .load false 1 (.t 1), none, false⟩,
              ⟨(some 17), .load true 5 (.t 7), none, false⟩,
              ⟨(some 18), .call (.t 16) [(.t 17)], none, false⟩,
              ⟨(some 19), .mx (.t 15) (.t 18), none, false⟩,
              ⟨(some 5), .mov (.t 19), none, false⟩])))
          (.ops [⟨(some 20), .bin .add (.t 11) (.c (.int .i64 (1))), none, false⟩,
            ⟨(some 11), .mov (.t 20), none, false⟩])))))))
    (.seq
     (.ops [⟨(some 21), .load false 1 (.t 2), none, false⟩,
       ⟨(some 22), .load true 5 (.t 3), none, false⟩,
       ⟨(some 23), .mov (.t 5), none, false⟩,
       ⟨(some 24), .call (.t 21) [(.t 22), (.t 23)], none, false⟩,
       ⟨(some 4), .mov (.t 24), none, false⟩])
     .ret))))⟩
def n17 : List (List Nat) := [[1, 2, 3, 5, 9, 10, 11]]
theorem c17 : compFn Try.prog Try.f17 n17 = some a17 := by kernel_rfl
def tab : Nat → Option AFunc
  | 3 => some a3
  | 4 => some a4
  | 5 => some a5
  | 6 => some a6
  | 7 => some a7
  | 8 => some a8
  | 9 => some a9
  | 10 => some a10
  | 11 => some a11
  | 12 => some a12
  | 13 => some a13
  | 14 => some a14
  | 15 => some a15
  | 16 => some a16
  | 17 => some a17
  | _ => none
theorem t3 : tab 3 = some a3 := rfl
theorem t4 : tab 4 = some a4 := rfl
theorem t5 : tab 5 = some a5 := rfl
theorem t6 : tab 6 = some a6 := rfl
theorem t7 : tab 7 = some a7 := rfl
theorem t8 : tab 8 = some a8 := rfl
theorem t9 : tab 9 = some a9 := rfl
theorem t10 : tab 10 = some a10 := rfl
theorem t11 : tab 11 = some a11 := rfl
theorem t12 : tab 12 = some a12 := rfl
theorem t13 : tab 13 = some a13 := rfl
theorem t14 : tab 14 = some a14 := rfl
theorem t15 : tab 15 = some a15 := rfl
theorem t16 : tab 16 = some a16 := rfl
theorem t17 : tab 17 = some a17 := rfl
theorem tabOk : TabOk Try.prog tab := by
  intro f afn h
  unfold tab at h
  split at h
  · injection h with h; subst h; exact ⟨Try.f3, n3, Try.func3, c3⟩
  · injection h with h; subst h; exact ⟨Try.f4, n4, Try.func4, c4⟩
  · injection h with h; subst h; exact ⟨Try.f5, n5, Try.func5, c5⟩
  · injection h with h; subst h; exact ⟨Try.f6, n6, Try.func6, c6⟩
  · injection h with h; subst h; exact ⟨Try.f7, n7, Try.func7, c7⟩
  · injection h with h; subst h; exact ⟨Try.f8, n8, Try.func8, c8⟩
  · injection h with h; subst h; exact ⟨Try.f9, n9, Try.func9, c9⟩
  · injection h with h; subst h; exact ⟨Try.f10, n10, Try.func10, c10⟩
  · injection h with h; subst h; exact ⟨Try.f11, n11, Try.func11, c11⟩
  · injection h with h; subst h; exact ⟨Try.f12, n12, Try.func12, c12⟩
  · injection h with h; subst h; exact ⟨Try.f13, n13, Try.func13, c13⟩
  · injection h with h; subst h; exact ⟨Try.f14, n14, Try.func14, c14⟩
  · injection h with h; subst h; exact ⟨Try.f15, n15, Try.func15, c15⟩
  · injection h with h; subst h; exact ⟨Try.f16, n16, Try.func16, c16⟩
  · injection h with h; subst h; exact ⟨Try.f17, n17, Try.func17, c17⟩
  · cases h
end Go.Proofs.L1
