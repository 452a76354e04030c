/- The types of this seat's translation, as the abstract machine asks them. -/
import Derived.Test.YtiiapkhdjchhjaaAb3
import Derived.Test.YtiiapkhdjchhjaaProg
import Derived.KernelRfl
namespace Go.Proofs.Ytiiapkhdjchhjaa.Ab
open Go.RowKit
set_option maxRecDepth 100000
theorem ty0 : tyOf Try.prog 0 = some (Ty.mk TD.other 1 0 [Value.tuple (#[])] false 1) := by kernel_rfl
theorem ty1 : tyOf Try.prog 1 = some (Ty.mk TD.other 1 8 [Value.nilFunc] false 1) := by kernel_rfl
theorem ty2 : tyOf Try.prog 2 = some (Ty.mk (TD.int IntKind.i64) 1 8 [Value.int IntKind.i64 (0)] false 1) := by kernel_rfl
theorem ty3 : tyOf Try.prog 3 = some (Ty.mk (TD.int IntKind.i64) 1 8 [Value.int IntKind.i64 (0)] false 1) := by kernel_rfl
theorem ty4 : tyOf Try.prog 4 = some (Ty.mk TD.bool 1 1 [Value.bool false] false 1) := by kernel_rfl
theorem ty5 : tyOf Try.prog 5 = some (Ty.mk (TD.int IntKind.u8) 1 1 [Value.int IntKind.u8 (0)] false 1) := by kernel_rfl
theorem ty6 : tyOf Try.prog 6 = some (Ty.mk (TD.int IntKind.u8) 1 1 [Value.int IntKind.u8 (0)] false 1) := by kernel_rfl
theorem ty7 : tyOf Try.prog 7 = some (Ty.mk (TD.st [(0, 1, 2), (1, 1, 3), (2, 1, 4), (3, 1, 6)]) 4 24 [Value.int IntKind.i64 (0), Value.int IntKind.i64 (0), Value.bool false, Value.int IntKind.u8 (0)] true 4) := by kernel_rfl
theorem ty8 : tyOf Try.prog 8 = some (Ty.mk (TD.st [(0, 1, 2), (1, 1, 3), (2, 1, 4), (3, 1, 6)]) 4 24 [Value.int IntKind.i64 (0), Value.int IntKind.i64 (0), Value.bool false, Value.int IntKind.u8 (0)] true 4) := by kernel_rfl
theorem ty9 : tyOf Try.prog 9 = some (Ty.mk TD.str 1 16 [Value.string (ByteArray.mk (#[]))] false 1) := by kernel_rfl
theorem ty10 : tyOf Try.prog 10 = some (Ty.mk TD.str 1 16 [Value.string (ByteArray.mk (#[]))] false 1) := by kernel_rfl
theorem ty11 : tyOf Try.prog 11 = some (Ty.mk TD.str 1 16 [Value.string (ByteArray.mk (#[]))] false 1) := by kernel_rfl
theorem ty12 : tyOf Try.prog 12 = some (Ty.mk (TD.int IntKind.u64) 1 8 [Value.int IntKind.u64 (0)] false 1) := by kernel_rfl
theorem ty13 : tyOf Try.prog 13 = some (Ty.mk (TD.st [(0, 1, 9), (1, 1, 12)]) 2 24 [Value.string (ByteArray.mk (#[])), Value.int IntKind.u64 (0)] true 2) := by kernel_rfl
theorem ty14 : tyOf Try.prog 14 = some (Ty.mk (TD.st [(0, 1, 9), (1, 1, 12)]) 2 24 [Value.string (ByteArray.mk (#[])), Value.int IntKind.u64 (0)] true 2) := by kernel_rfl
theorem ty15 : tyOf Try.prog 15 = some (Ty.mk (TD.ptr 66) 1 8 [Value.pointer none] false 1) := by kernel_rfl
theorem ty16 : tyOf Try.prog 16 = some (Ty.mk (TD.ptr 69) 1 8 [Value.pointer none] false 1) := by kernel_rfl
theorem ty17 : tyOf Try.prog 17 = some (Ty.mk (TD.ptr 78) 1 8 [Value.pointer none] false 1) := by kernel_rfl
theorem ty18 : tyOf Try.prog 18 = some (Ty.mk (TD.st [(0, 1, 17)]) 1 8 [Value.pointer none] true 1) := by kernel_rfl
theorem ty19 : tyOf Try.prog 19 = some (Ty.mk (TD.st [(0, 1, 17)]) 1 8 [Value.pointer none] true 1) := by kernel_rfl
theorem ty20 : tyOf Try.prog 20 = some (Ty.mk TD.other 1 16 [Value.nilIface] false 1) := by kernel_rfl
theorem ty21 : tyOf Try.prog 21 = some (Ty.mk (TD.int IntKind.i32) 1 4 [Value.int IntKind.i32 (0)] false 1) := by kernel_rfl
theorem ty22 : tyOf Try.prog 22 = some (Ty.mk (TD.sl 30) 1 24 [Value.slice none 0 0] false 1) := by kernel_rfl
theorem ty23 : tyOf Try.prog 23 = some (Ty.mk (TD.sl 3) 1 24 [Value.slice none 0 0] false 1) := by kernel_rfl
theorem ty24 : tyOf Try.prog 24 = some (Ty.mk (TD.int IntKind.i64) 1 8 [Value.int IntKind.i64 (0)] false 1) := by kernel_rfl
theorem ty25 : tyOf Try.prog 25 = some (Ty.mk TD.other 1 0 [Value.tuple (#[Value.bool false, Value.int IntKind.i64 (0)])] false 1) := by kernel_rfl
theorem ty26 : tyOf Try.prog 26 = some (Ty.mk TD.other 1 8 [Value.nilFunc] false 1) := by kernel_rfl
theorem ty27 : tyOf Try.prog 27 = some (Ty.mk (TD.int IntKind.u32) 1 4 [Value.int IntKind.u32 (0)] false 1) := by kernel_rfl
theorem ty28 : tyOf Try.prog 28 = some (Ty.mk TD.other 1 8 [Value.nilFunc] false 1) := by kernel_rfl
theorem ty29 : tyOf Try.prog 29 = some (Ty.mk (TD.st [(0, 1, 3), (1, 1, 3), (2, 1, 3)]) 3 24 [Value.int IntKind.i64 (0), Value.int IntKind.i64 (0), Value.int IntKind.i64 (0)] true 3) := by kernel_rfl
theorem ty30 : tyOf Try.prog 30 = some (Ty.mk (TD.st [(0, 1, 3), (1, 1, 3), (2, 1, 3)]) 3 24 [Value.int IntKind.i64 (0), Value.int IntKind.i64 (0), Value.int IntKind.i64 (0)] true 3) := by kernel_rfl
theorem ty31 : tyOf Try.prog 31 = some (Ty.mk (TD.ptr 46) 1 8 [Value.pointer none] false 1) := by kernel_rfl
theorem ty32 : tyOf Try.prog 32 = some (Ty.mk TD.other 1 8 [Value.nilFunc] false 1) := by kernel_rfl
theorem ty33 : tyOf Try.prog 33 = some (Ty.mk (TD.mp 3 3) 1 8 [Value.map none] false 1) := by kernel_rfl
theorem ty34 : tyOf Try.prog 34 = some (Ty.mk (TD.sl 39) 1 24 [Value.slice none 0 0] false 1) := by kernel_rfl
theorem ty35 : tyOf Try.prog 35 = some (Ty.mk TD.other 1 8 [Value.nilFunc] false 1) := by kernel_rfl
theorem ty36 : tyOf Try.prog 36 = some (Ty.mk TD.other 1 8 [Value.nilFunc] false 1) := by kernel_rfl
theorem ty37 : tyOf Try.prog 37 = some (Ty.mk (TD.sl 58) 1 24 [Value.slice none 0 0] false 1) := by kernel_rfl
theorem ty38 : tyOf Try.prog 38 = some (Ty.mk (TD.st [(0, 1, 3), (1, 1, 3), (2, 1, 3), (3, 1, 3), (4, 1, 27), (5, 1, 37)]) 6 64 [Value.int IntKind.i64 (0), Value.int IntKind.i64 (0), Value.int IntKind.i64 (0), Value.int IntKind.i64 (0), Value.int IntKind.u32 (0), Value.slice none 0 0] true 6) := by kernel_rfl
theorem ty39 : tyOf Try.prog 39 = some (Ty.mk (TD.st [(0, 1, 3), (1, 1, 3), (2, 1, 3), (3, 1, 3), (4, 1, 27), (5, 1, 37)]) 6 64 [Value.int IntKind.i64 (0), Value.int IntKind.i64 (0), Value.int IntKind.i64 (0), Value.int IntKind.i64 (0), Value.int IntKind.u32 (0), Value.slice none 0 0] true 6) := by kernel_rfl
theorem ty40 : tyOf Try.prog 40 = some (Ty.mk TD.other 1 8 [Value.nilFunc] false 1) := by kernel_rfl
theorem ty41 : tyOf Try.prog 41 = some (Ty.mk TD.other 1 8 [Value.nilFunc] false 1) := by kernel_rfl
theorem ty42 : tyOf Try.prog 42 = some (Ty.mk TD.other 1 8 [Value.nilFunc] false 1) := by kernel_rfl
theorem ty43 : tyOf Try.prog 43 = some (Ty.mk TD.other 1 8 [Value.nilFunc] false 1) := by kernel_rfl
theorem ty44 : tyOf Try.prog 44 = some (Ty.mk (TD.sl 48) 1 24 [Value.slice none 0 0] false 1) := by kernel_rfl
theorem ty45 : tyOf Try.prog 45 = some (Ty.mk (TD.st [(0, 1, 22), (1, 1, 3), (2, 1, 44)]) 3 56 [Value.slice none 0 0, Value.int IntKind.i64 (0), Value.slice none 0 0] true 3) := by kernel_rfl
theorem ty46 : tyOf Try.prog 46 = some (Ty.mk (TD.st [(0, 1, 22), (1, 1, 3), (2, 1, 44)]) 3 56 [Value.slice none 0 0, Value.int IntKind.i64 (0), Value.slice none 0 0] true 3) := by kernel_rfl
theorem ty47 : tyOf Try.prog 47 = some (Ty.mk (TD.st [(0, 1, 3), (1, 6, 39)]) 7 72 [Value.int IntKind.i64 (0), Value.int IntKind.i64 (0), Value.int IntKind.i64 (0), Value.int IntKind.i64 (0), Value.int IntKind.i64 (0), Value.int IntKind.u32 (0), Value.slice none 0 0] true 7) := by kernel_rfl
theorem ty48 : tyOf Try.prog 48 = some (Ty.mk (TD.st [(0, 1, 3), (1, 6, 39)]) 7 72 [Value.int IntKind.i64 (0), Value.int IntKind.i64 (0), Value.int IntKind.i64 (0), Value.int IntKind.i64 (0), Value.int IntKind.i64 (0), Value.int IntKind.u32 (0), Value.slice none 0 0] true 7) := by kernel_rfl
theorem ty49 : tyOf Try.prog 49 = some (Ty.mk TD.other 1 8 [Value.nilFunc] false 1) := by kernel_rfl
theorem ty50 : tyOf Try.prog 50 = some (Ty.mk TD.other 1 8 [Value.nilFunc] false 1) := by kernel_rfl
theorem ty51 : tyOf Try.prog 51 = some (Ty.mk TD.other 1 8 [Value.nilFunc] false 1) := by kernel_rfl
theorem ty52 : tyOf Try.prog 52 = some (Ty.mk TD.other 1 8 [Value.nilFunc] false 1) := by kernel_rfl
theorem ty53 : tyOf Try.prog 53 = some (Ty.mk TD.other 1 8 [Value.nilFunc] false 1) := by kernel_rfl
theorem ty54 : tyOf Try.prog 54 = some (Ty.mk TD.other 1 8 [Value.nilFunc] false 1) := by kernel_rfl
theorem ty55 : tyOf Try.prog 55 = some (Ty.mk TD.other 1 8 [Value.nilFunc] false 1) := by kernel_rfl
theorem ty56 : tyOf Try.prog 56 = some (Ty.mk TD.other 1 8 [Value.nilFunc] false 1) := by kernel_rfl
theorem ty57 : tyOf Try.prog 57 = some (Ty.mk (TD.st [(0, 1, 3), (1, 1, 3)]) 2 16 [Value.int IntKind.i64 (0), Value.int IntKind.i64 (0)] true 2) := by kernel_rfl
theorem ty58 : tyOf Try.prog 58 = some (Ty.mk (TD.st [(0, 1, 3), (1, 1, 3)]) 2 16 [Value.int IntKind.i64 (0), Value.int IntKind.i64 (0)] true 2) := by kernel_rfl
theorem ty59 : tyOf Try.prog 59 = some (Ty.mk TD.other 1 8 [Value.nilFunc] false 1) := by kernel_rfl
theorem ty60 : tyOf Try.prog 60 = some (Ty.mk TD.other 1 8 [Value.nilFunc] false 1) := by kernel_rfl
theorem ty61 : tyOf Try.prog 61 = some (Ty.mk TD.other 1 8 [Value.nilFunc] false 1) := by kernel_rfl
theorem ty62 : tyOf Try.prog 62 = some (Ty.mk TD.other 1 8 [Value.nilFunc] false 1) := by kernel_rfl
theorem ty63 : tyOf Try.prog 63 = some (Ty.mk (TD.int IntKind.u64) 1 8 [Value.int IntKind.u64 (0)] false 1) := by kernel_rfl
theorem ty64 : tyOf Try.prog 64 = some (Ty.mk TD.other 1 8 [Value.nilFunc] false 1) := by kernel_rfl
theorem ty65 : tyOf Try.prog 65 = some (Ty.mk (TD.st [(0, 1, 17), (1, 1, 17), (2, 1, 17), (3, 1, 9)]) 4 40 [Value.pointer none, Value.pointer none, Value.pointer none, Value.string (ByteArray.mk (#[]))] true 4) := by kernel_rfl
theorem ty66 : tyOf Try.prog 66 = some (Ty.mk (TD.st [(0, 1, 17), (1, 1, 17), (2, 1, 17), (3, 1, 9)]) 4 40 [Value.pointer none, Value.pointer none, Value.pointer none, Value.string (ByteArray.mk (#[]))] true 4) := by kernel_rfl
theorem ty67 : tyOf Try.prog 67 = some (Ty.mk (TD.arr 0 16) 0 0 [] true 1) := by kernel_rfl
theorem ty68 : tyOf Try.prog 68 = some (Ty.mk (TD.st [(0, 0, 67)]) 0 0 [] true 0) := by kernel_rfl
theorem ty69 : tyOf Try.prog 69 = some (Ty.mk (TD.st [(0, 0, 67)]) 0 0 [] true 0) := by kernel_rfl
theorem ty70 : tyOf Try.prog 70 = some (Ty.mk TD.other 1 8 [Value.nilFunc] false 1) := by kernel_rfl
theorem ty71 : tyOf Try.prog 71 = some (Ty.mk (TD.int IntKind.u8) 1 1 [Value.int IntKind.u8 (0)] false 1) := by kernel_rfl
theorem ty72 : tyOf Try.prog 72 = some (Ty.mk (TD.int IntKind.u8) 1 1 [Value.int IntKind.u8 (0)] false 1) := by kernel_rfl
theorem ty73 : tyOf Try.prog 73 = some (Ty.mk TD.other 1 8 [Value.nilFunc] false 1) := by kernel_rfl
theorem ty74 : tyOf Try.prog 74 = some (Ty.mk (TD.ptr 5) 1 8 [Value.pointer none] false 1) := by kernel_rfl
theorem ty75 : tyOf Try.prog 75 = some (Ty.mk (TD.int IntKind.i32) 1 4 [Value.int IntKind.i32 (0)] false 1) := by kernel_rfl
theorem ty76 : tyOf Try.prog 76 = some (Ty.mk (TD.int IntKind.i32) 1 4 [Value.int IntKind.i32 (0)] false 1) := by kernel_rfl
theorem ty77 : tyOf Try.prog 77 = some (Ty.mk (TD.st [(0, 1, 12), (1, 1, 12), (2, 1, 27), (3, 1, 71), (4, 1, 5), (5, 1, 5), (6, 1, 72), (7, 1, 73), (8, 1, 74), (9, 1, 75), (10, 1, 76)]) 11 48 [Value.int IntKind.u64 (0), Value.int IntKind.u64 (0), Value.int IntKind.u32 (0), Value.int IntKind.u8 (0), Value.int IntKind.u8 (0), Value.int IntKind.u8 (0), Value.int IntKind.u8 (0), Value.nilFunc, Value.pointer none, Value.int IntKind.i32 (0), Value.int IntKind.i32 (0)] true 11) := by kernel_rfl
theorem ty78 : tyOf Try.prog 78 = some (Ty.mk (TD.st [(0, 1, 12), (1, 1, 12), (2, 1, 27), (3, 1, 71), (4, 1, 5), (5, 1, 5), (6, 1, 72), (7, 1, 73), (8, 1, 74), (9, 1, 75), (10, 1, 76)]) 11 48 [Value.int IntKind.u64 (0), Value.int IntKind.u64 (0), Value.int IntKind.u32 (0), Value.int IntKind.u8 (0), Value.int IntKind.u8 (0), Value.int IntKind.u8 (0), Value.int IntKind.u8 (0), Value.nilFunc, Value.pointer none, Value.int IntKind.i32 (0), Value.int IntKind.i32 (0)] true 11) := by kernel_rfl
theorem ty79 : tyOf Try.prog 79 = some (Ty.mk TD.other 1 8 [Value.pointer none] false 1) := by kernel_rfl
theorem mixed : Try.prog.follows .mixedOrders = true := by kernel_rfl
set_option linter.defProp false in
/-- All of them. -/
def TY := And.intro @ty0 (And.intro @ty1 (And.intro @ty2 (And.intro @ty3 (And.intro @ty4 (And.intro @ty5 (And.intro @ty6 (And.intro @ty7 (And.intro @ty8 (And.intro @ty9 (And.intro @ty10 (And.intro @ty11 (And.intro @ty12 (And.intro @ty13 (And.intro @ty14 (And.intro @ty15 (And.intro @ty16 (And.intro @ty17 (And.intro @ty18 (And.intro @ty19 (And.intro @ty20 (And.intro @ty21 (And.intro @ty22 (And.intro @ty23 (And.intro @ty24 (And.intro @ty25 (And.intro @ty26 (And.intro @ty27 (And.intro @ty28 (And.intro @ty29 (And.intro @ty30 (And.intro @ty31 (And.intro @ty32 (And.intro @ty33 (And.intro @ty34 (And.intro @ty35 (And.intro @ty36 (And.intro @ty37 (And.intro @ty38 (And.intro @ty39 (And.intro @ty40 (And.intro @ty41 (And.intro @ty42 (And.intro @ty43 (And.intro @ty44 (And.intro @ty45 (And.intro @ty46 (And.intro @ty47 (And.intro @ty48 (And.intro @ty49 (And.intro @ty50 (And.intro @ty51 (And.intro @ty52 (And.intro @ty53 (And.intro @ty54 (And.intro @ty55 (And.intro @ty56 (And.intro @ty57 (And.intro @ty58 (And.intro @ty59 (And.intro @ty60 (And.intro @ty61 (And.intro @ty62 (And.intro @ty63 (And.intro @ty64 (And.intro @ty65 (And.intro @ty66 (And.intro @ty67 (And.intro @ty68 (And.intro @ty69 (And.intro @ty70 (And.intro @ty71 (And.intro @ty72 (And.intro @ty73 (And.intro @ty74 (And.intro @ty75 (And.intro @ty76 (And.intro @ty77 (And.intro @ty78 (@ty79)))))))))))))))))))))))))))))))))))))))))))))))))))))))))))))))))))))))))))))))
end Go.Proofs.Ytiiapkhdjchhjaa.Ab
