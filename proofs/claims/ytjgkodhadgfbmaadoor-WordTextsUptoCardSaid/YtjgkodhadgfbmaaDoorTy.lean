/- The types of this seat's translation, as the abstract machine asks them. -/
import Derived.Test.YtjgkodhadgfbmaaDoorAb3
import Derived.Test.YtjgkodhadgfbmaaDoorProg
import Derived.KernelRfl
namespace Go.Proofs.YtjgkodhadgfbmaaDoor.Ab
open Go.RowKit
set_option maxRecDepth 100000
theorem ty0 : tyOf Tryd.prog 0 = some (Ty.mk TD.other 1 0 [Value.tuple (#[])] false 1) := by kernel_rfl
theorem ty1 : tyOf Tryd.prog 1 = some (Ty.mk TD.other 1 8 [Value.nilFunc] false 1) := by kernel_rfl
theorem ty2 : tyOf Tryd.prog 2 = some (Ty.mk (TD.int IntKind.i64) 1 8 [Value.int IntKind.i64 (0)] false 1) := by kernel_rfl
theorem ty3 : tyOf Tryd.prog 3 = some (Ty.mk (TD.int IntKind.i64) 1 8 [Value.int IntKind.i64 (0)] false 1) := by kernel_rfl
theorem ty4 : tyOf Tryd.prog 4 = some (Ty.mk TD.bool 1 1 [Value.bool false] false 1) := by kernel_rfl
theorem ty5 : tyOf Tryd.prog 5 = some (Ty.mk (TD.int IntKind.u8) 1 1 [Value.int IntKind.u8 (0)] false 1) := by kernel_rfl
theorem ty6 : tyOf Tryd.prog 6 = some (Ty.mk (TD.int IntKind.u8) 1 1 [Value.int IntKind.u8 (0)] false 1) := by kernel_rfl
theorem ty7 : tyOf Tryd.prog 7 = some (Ty.mk (TD.st [(0, 1, 2), (1, 1, 3), (2, 1, 4), (3, 1, 6)]) 4 24 [Value.int IntKind.i64 (0), Value.int IntKind.i64 (0), Value.bool false, Value.int IntKind.u8 (0)] true 4) := by kernel_rfl
theorem ty8 : tyOf Tryd.prog 8 = some (Ty.mk (TD.st [(0, 1, 2), (1, 1, 3), (2, 1, 4), (3, 1, 6)]) 4 24 [Value.int IntKind.i64 (0), Value.int IntKind.i64 (0), Value.bool false, Value.int IntKind.u8 (0)] true 4) := by kernel_rfl
theorem ty9 : tyOf Tryd.prog 9 = some (Ty.mk TD.str 1 16 [Value.string (ByteArray.mk (#[]))] false 1) := by kernel_rfl
theorem ty10 : tyOf Tryd.prog 10 = some (Ty.mk TD.str 1 16 [Value.string (ByteArray.mk (#[]))] false 1) := by kernel_rfl
theorem ty11 : tyOf Tryd.prog 11 = some (Ty.mk TD.str 1 16 [Value.string (ByteArray.mk (#[]))] false 1) := by kernel_rfl
theorem ty12 : tyOf Tryd.prog 12 = some (Ty.mk (TD.int IntKind.u64) 1 8 [Value.int IntKind.u64 (0)] false 1) := by kernel_rfl
theorem ty13 : tyOf Tryd.prog 13 = some (Ty.mk (TD.st [(0, 1, 9), (1, 1, 12)]) 2 24 [Value.string (ByteArray.mk (#[])), Value.int IntKind.u64 (0)] true 2) := by kernel_rfl
theorem ty14 : tyOf Tryd.prog 14 = some (Ty.mk (TD.st [(0, 1, 9), (1, 1, 12)]) 2 24 [Value.string (ByteArray.mk (#[])), Value.int IntKind.u64 (0)] true 2) := by kernel_rfl
theorem ty15 : tyOf Tryd.prog 15 = some (Ty.mk (TD.ptr 91) 1 8 [Value.pointer none] false 1) := by kernel_rfl
theorem ty16 : tyOf Tryd.prog 16 = some (Ty.mk (TD.ptr 94) 1 8 [Value.pointer none] false 1) := by kernel_rfl
theorem ty17 : tyOf Tryd.prog 17 = some (Ty.mk (TD.ptr 102) 1 8 [Value.pointer none] false 1) := by kernel_rfl
theorem ty18 : tyOf Tryd.prog 18 = some (Ty.mk (TD.st [(0, 1, 17)]) 1 8 [Value.pointer none] true 1) := by kernel_rfl
theorem ty19 : tyOf Tryd.prog 19 = some (Ty.mk (TD.st [(0, 1, 17)]) 1 8 [Value.pointer none] true 1) := by kernel_rfl
theorem ty20 : tyOf Tryd.prog 20 = some (Ty.mk TD.other 1 16 [Value.nilIface] false 1) := by kernel_rfl
theorem ty21 : tyOf Tryd.prog 21 = some (Ty.mk (TD.int IntKind.i32) 1 4 [Value.int IntKind.i32 (0)] false 1) := by kernel_rfl
theorem ty22 : tyOf Tryd.prog 22 = some (Ty.mk TD.other 1 8 [Value.nilFunc] false 1) := by kernel_rfl
theorem ty23 : tyOf Tryd.prog 23 = some (Ty.mk TD.other 1 8 [Value.nilFunc] false 1) := by kernel_rfl
theorem ty24 : tyOf Tryd.prog 24 = some (Ty.mk TD.other 1 8 [Value.nilFunc] false 1) := by kernel_rfl
theorem ty25 : tyOf Tryd.prog 25 = some (Ty.mk TD.other 1 8 [Value.nilFunc] false 1) := by kernel_rfl
theorem ty26 : tyOf Tryd.prog 26 = some (Ty.mk (TD.sl 32) 1 24 [Value.slice none 0 0] false 1) := by kernel_rfl
theorem ty27 : tyOf Tryd.prog 27 = some (Ty.mk (TD.int IntKind.i64) 1 8 [Value.int IntKind.i64 (0)] false 1) := by kernel_rfl
theorem ty28 : tyOf Tryd.prog 28 = some (Ty.mk TD.other 1 0 [Value.tuple (#[Value.slice none 0 0, Value.int IntKind.i64 (0)])] false 1) := by kernel_rfl
theorem ty29 : tyOf Tryd.prog 29 = some (Ty.mk TD.other 1 8 [Value.nilFunc] false 1) := by kernel_rfl
theorem ty30 : tyOf Tryd.prog 30 = some (Ty.mk TD.other 1 8 [Value.nilFunc] false 1) := by kernel_rfl
theorem ty31 : tyOf Tryd.prog 31 = some (Ty.mk (TD.st [(0, 1, 3), (1, 1, 3), (2, 1, 9)]) 3 32 [Value.int IntKind.i64 (0), Value.int IntKind.i64 (0), Value.string (ByteArray.mk (#[]))] true 3) := by kernel_rfl
theorem ty32 : tyOf Tryd.prog 32 = some (Ty.mk (TD.st [(0, 1, 3), (1, 1, 3), (2, 1, 9)]) 3 32 [Value.int IntKind.i64 (0), Value.int IntKind.i64 (0), Value.string (ByteArray.mk (#[]))] true 3) := by kernel_rfl
theorem ty33 : tyOf Tryd.prog 33 = some (Ty.mk TD.other 1 0 [Value.tuple (Array.mk [Value.string (ByteArray.mk (#[])), Value.int IntKind.i64 (0)])] false 1) := by kernel_rfl
theorem ty34 : tyOf Tryd.prog 34 = some (Ty.mk TD.other 1 8 [Value.nilFunc] false 1) := by kernel_rfl
theorem ty35 : tyOf Tryd.prog 35 = some (Ty.mk TD.other 1 8 [Value.nilFunc] false 1) := by kernel_rfl
theorem ty36 : tyOf Tryd.prog 36 = some (Ty.mk TD.other 1 8 [Value.nilFunc] false 1) := by kernel_rfl
theorem ty37 : tyOf Tryd.prog 37 = some (Ty.mk TD.other 1 8 [Value.nilFunc] false 1) := by kernel_rfl
theorem ty38 : tyOf Tryd.prog 38 = some (Ty.mk TD.other 1 8 [Value.nilFunc] false 1) := by kernel_rfl
theorem ty39 : tyOf Tryd.prog 39 = some (Ty.mk TD.other 1 0 [Value.tuple (Array.mk [Value.string (ByteArray.mk (#[])), Value.string (ByteArray.mk (#[])), Value.bool false])] false 1) := by kernel_rfl
theorem ty40 : tyOf Tryd.prog 40 = some (Ty.mk TD.other 1 8 [Value.nilFunc] false 1) := by kernel_rfl
theorem ty41 : tyOf Tryd.prog 41 = some (Ty.mk (TD.sl 9) 1 24 [Value.slice none 0 0] false 1) := by kernel_rfl
theorem ty42 : tyOf Tryd.prog 42 = some (Ty.mk TD.other 1 8 [Value.nilFunc] false 1) := by kernel_rfl
theorem ty43 : tyOf Tryd.prog 43 = some (Ty.mk TD.other 1 8 [Value.nilFunc] false 1) := by kernel_rfl
theorem ty44 : tyOf Tryd.prog 44 = some (Ty.mk TD.other 1 0 [Value.tuple (Array.mk [Value.agg (Array.mk [Value.int IntKind.i64 (0), Value.int IntKind.i64 (0), Value.string (ByteArray.mk (#[]))]), Value.int IntKind.i64 (0)])] false 1) := by kernel_rfl
theorem ty45 : tyOf Tryd.prog 45 = some (Ty.mk TD.other 1 8 [Value.nilFunc] false 1) := by kernel_rfl
theorem ty46 : tyOf Tryd.prog 46 = some (Ty.mk TD.other 1 8 [Value.nilFunc] false 1) := by kernel_rfl
theorem ty47 : tyOf Tryd.prog 47 = some (Ty.mk TD.other 1 8 [Value.nilFunc] false 1) := by kernel_rfl
theorem ty48 : tyOf Tryd.prog 48 = some (Ty.mk (TD.mp 5 3) 1 8 [Value.map none] false 1) := by kernel_rfl
theorem ty49 : tyOf Tryd.prog 49 = some (Ty.mk TD.other 1 8 [Value.nilFunc] false 1) := by kernel_rfl
theorem ty50 : tyOf Tryd.prog 50 = some (Ty.mk TD.other 1 8 [Value.nilFunc] false 1) := by kernel_rfl
theorem ty51 : tyOf Tryd.prog 51 = some (Ty.mk (TD.arr 256 4) 256 256 (List.replicate 256 (Value.bool false)) true 1) := by kernel_rfl
theorem ty52 : tyOf Tryd.prog 52 = some (Ty.mk (TD.arr 256 4) 256 256 (List.replicate 256 (Value.bool false)) true 1) := by kernel_rfl
theorem ty53 : tyOf Tryd.prog 53 = some (Ty.mk TD.other 1 0 [Value.tuple (#[Value.agg (Array.mk (List.replicate 256 (Value.bool false))), Value.bool false])] false 1) := by kernel_rfl
theorem ty54 : tyOf Tryd.prog 54 = some (Ty.mk TD.other 1 8 [Value.nilFunc] false 1) := by kernel_rfl
theorem ty55 : tyOf Tryd.prog 55 = some (Ty.mk TD.other 1 8 [Value.nilFunc] false 1) := by kernel_rfl
theorem ty56 : tyOf Tryd.prog 56 = some (Ty.mk (TD.ptr 52) 1 8 [Value.pointer none] false 1) := by kernel_rfl
theorem ty57 : tyOf Tryd.prog 57 = some (Ty.mk TD.other 1 8 [Value.nilFunc] false 1) := by kernel_rfl
theorem ty58 : tyOf Tryd.prog 58 = some (Ty.mk TD.other 1 8 [Value.nilFunc] false 1) := by kernel_rfl
theorem ty59 : tyOf Tryd.prog 59 = some (Ty.mk TD.other 1 8 [Value.nilFunc] false 1) := by kernel_rfl
theorem ty60 : tyOf Tryd.prog 60 = some (Ty.mk TD.other 1 8 [Value.nilFunc] false 1) := by kernel_rfl
theorem ty61 : tyOf Tryd.prog 61 = some (Ty.mk (TD.ptr 64) 1 8 [Value.pointer none] false 1) := by kernel_rfl
theorem ty62 : tyOf Tryd.prog 62 = some (Ty.mk (TD.sl 5) 1 24 [Value.slice none 0 0] false 1) := by kernel_rfl
theorem ty63 : tyOf Tryd.prog 63 = some (Ty.mk (TD.st [(0, 1, 61), (1, 1, 62)]) 2 32 [Value.pointer none, Value.slice none 0 0] true 2) := by kernel_rfl
theorem ty64 : tyOf Tryd.prog 64 = some (Ty.mk (TD.st [(0, 1, 61), (1, 1, 62)]) 2 32 [Value.pointer none, Value.slice none 0 0] true 2) := by kernel_rfl
theorem ty65 : tyOf Tryd.prog 65 = some (Ty.mk TD.other 1 8 [Value.nilFunc] false 1) := by kernel_rfl
theorem ty66 : tyOf Tryd.prog 66 = some (Ty.mk TD.other 1 16 [Value.nilIface] false 1) := by kernel_rfl
theorem ty67 : tyOf Tryd.prog 67 = some (Ty.mk TD.other 1 16 [Value.nilIface] false 1) := by kernel_rfl
theorem ty68 : tyOf Tryd.prog 68 = some (Ty.mk TD.other 1 0 [Value.tuple (#[Value.int IntKind.i64 (0), Value.nilIface])] false 1) := by kernel_rfl
theorem ty69 : tyOf Tryd.prog 69 = some (Ty.mk TD.other 1 8 [Value.nilFunc] false 1) := by kernel_rfl
theorem ty70 : tyOf Tryd.prog 70 = some (Ty.mk TD.other 1 8 [Value.nilFunc] false 1) := by kernel_rfl
theorem ty71 : tyOf Tryd.prog 71 = some (Ty.mk TD.other 1 0 [Value.tuple (#[Value.int IntKind.i32 (0), Value.int IntKind.i64 (0)])] false 1) := by kernel_rfl
theorem ty72 : tyOf Tryd.prog 72 = some (Ty.mk TD.other 1 8 [Value.nilFunc] false 1) := by kernel_rfl
theorem ty73 : tyOf Tryd.prog 73 = some (Ty.mk TD.other 1 8 [Value.nilFunc] false 1) := by kernel_rfl
theorem ty74 : tyOf Tryd.prog 74 = some (Ty.mk TD.other 1 8 [Value.nilFunc] false 1) := by kernel_rfl
theorem ty75 : tyOf Tryd.prog 75 = some (Ty.mk (TD.ptr 5) 1 8 [Value.pointer none] false 1) := by kernel_rfl
theorem ty76 : tyOf Tryd.prog 76 = some (Ty.mk TD.other 1 8 [Value.nilFunc] false 1) := by kernel_rfl
theorem ty77 : tyOf Tryd.prog 77 = some (Ty.mk TD.other 1 8 [Value.nilFunc] false 1) := by kernel_rfl
theorem ty78 : tyOf Tryd.prog 78 = some (Ty.mk (TD.int IntKind.u64) 1 8 [Value.int IntKind.u64 (0)] false 1) := by kernel_rfl
theorem ty79 : tyOf Tryd.prog 79 = some (Ty.mk TD.other 1 8 [Value.pointer none] false 1) := by kernel_rfl
theorem ty80 : tyOf Tryd.prog 80 = some (Ty.mk TD.other 1 8 [Value.nilFunc] false 1) := by kernel_rfl
theorem ty81 : tyOf Tryd.prog 81 = some (Ty.mk TD.other 1 8 [Value.nilFunc] false 1) := by kernel_rfl
theorem ty82 : tyOf Tryd.prog 82 = some (Ty.mk (TD.arr 256 5) 256 256 (List.replicate 256 (Value.int IntKind.u8 (0))) true 1) := by kernel_rfl
theorem ty83 : tyOf Tryd.prog 83 = some (Ty.mk (TD.st [(0, 1, 5), (1, 1, 5)]) 2 2 [Value.int IntKind.u8 (0), Value.int IntKind.u8 (0)] true 2) := by kernel_rfl
theorem ty84 : tyOf Tryd.prog 84 = some (Ty.mk (TD.st [(0, 1, 5), (1, 1, 5)]) 2 2 [Value.int IntKind.u8 (0), Value.int IntKind.u8 (0)] true 2) := by kernel_rfl
theorem ty85 : tyOf Tryd.prog 85 = some (Ty.mk (TD.arr 16 84) 32 32 [Value.int IntKind.u8 (0), Value.int IntKind.u8 (0), Value.int IntKind.u8 (0), Value.int IntKind.u8 (0), Value.int IntKind.u8 (0), Value.int IntKind.u8 (0), Value.int IntKind.u8 (0), Value.int IntKind.u8 (0), Value.int IntKind.u8 (0), Value.int IntKind.u8 (0), Value.int IntKind.u8 (0), Value.int IntKind.u8 (0), Value.int IntKind.u8 (0), Value.int IntKind.u8 (0), Value.int IntKind.u8 (0), Value.int IntKind.u8 (0), Value.int IntKind.u8 (0), Value.int IntKind.u8 (0), Value.int IntKind.u8 (0), Value.int IntKind.u8 (0), Value.int IntKind.u8 (0), Value.int IntKind.u8 (0), Value.int IntKind.u8 (0), Value.int IntKind.u8 (0), Value.int IntKind.u8 (0), Value.int IntKind.u8 (0), Value.int IntKind.u8 (0), Value.int IntKind.u8 (0), Value.int IntKind.u8 (0), Value.int IntKind.u8 (0), Value.int IntKind.u8 (0), Value.int IntKind.u8 (0)] true 2) := by kernel_rfl
theorem ty86 : tyOf Tryd.prog 86 = some (Ty.mk TD.other 1 8 [Value.nilFunc] false 1) := by kernel_rfl
theorem ty87 : tyOf Tryd.prog 87 = some (Ty.mk (TD.int IntKind.u32) 1 4 [Value.int IntKind.u32 (0)] false 1) := by kernel_rfl
theorem ty88 : tyOf Tryd.prog 88 = some (Ty.mk TD.other 1 0 [Value.tuple (#[Value.int IntKind.u32 (0), Value.int IntKind.u32 (0)])] false 1) := by kernel_rfl
theorem ty89 : tyOf Tryd.prog 89 = some (Ty.mk TD.other 1 8 [Value.nilFunc] false 1) := by kernel_rfl
theorem ty90 : tyOf Tryd.prog 90 = some (Ty.mk (TD.st [(0, 1, 17), (1, 1, 17), (2, 1, 17), (3, 1, 9)]) 4 40 [Value.pointer none, Value.pointer none, Value.pointer none, Value.string (ByteArray.mk (#[]))] true 4) := by kernel_rfl
theorem ty91 : tyOf Tryd.prog 91 = some (Ty.mk (TD.st [(0, 1, 17), (1, 1, 17), (2, 1, 17), (3, 1, 9)]) 4 40 [Value.pointer none, Value.pointer none, Value.pointer none, Value.string (ByteArray.mk (#[]))] true 4) := by kernel_rfl
theorem ty92 : tyOf Tryd.prog 92 = some (Ty.mk (TD.arr 0 16) 0 0 [] true 1) := by kernel_rfl
theorem ty93 : tyOf Tryd.prog 93 = some (Ty.mk (TD.st [(0, 0, 92)]) 0 0 [] true 0) := by kernel_rfl
theorem ty94 : tyOf Tryd.prog 94 = some (Ty.mk (TD.st [(0, 0, 92)]) 0 0 [] true 0) := by kernel_rfl
theorem ty95 : tyOf Tryd.prog 95 = some (Ty.mk TD.other 1 8 [Value.nilFunc] false 1) := by kernel_rfl
theorem ty96 : tyOf Tryd.prog 96 = some (Ty.mk (TD.int IntKind.u8) 1 1 [Value.int IntKind.u8 (0)] false 1) := by kernel_rfl
theorem ty97 : tyOf Tryd.prog 97 = some (Ty.mk (TD.int IntKind.u8) 1 1 [Value.int IntKind.u8 (0)] false 1) := by kernel_rfl
theorem ty98 : tyOf Tryd.prog 98 = some (Ty.mk TD.other 1 8 [Value.nilFunc] false 1) := by kernel_rfl
theorem ty99 : tyOf Tryd.prog 99 = some (Ty.mk (TD.int IntKind.i32) 1 4 [Value.int IntKind.i32 (0)] false 1) := by kernel_rfl
theorem ty100 : tyOf Tryd.prog 100 = some (Ty.mk (TD.int IntKind.i32) 1 4 [Value.int IntKind.i32 (0)] false 1) := by kernel_rfl
theorem ty101 : tyOf Tryd.prog 101 = some (Ty.mk (TD.st [(0, 1, 12), (1, 1, 12), (2, 1, 87), (3, 1, 96), (4, 1, 5), (5, 1, 5), (6, 1, 97), (7, 1, 98), (8, 1, 75), (9, 1, 99), (10, 1, 100)]) 11 48 [Value.int IntKind.u64 (0), Value.int IntKind.u64 (0), Value.int IntKind.u32 (0), Value.int IntKind.u8 (0), Value.int IntKind.u8 (0), Value.int IntKind.u8 (0), Value.int IntKind.u8 (0), Value.nilFunc, Value.pointer none, Value.int IntKind.i32 (0), Value.int IntKind.i32 (0)] true 11) := by kernel_rfl
theorem ty102 : tyOf Tryd.prog 102 = some (Ty.mk (TD.st [(0, 1, 12), (1, 1, 12), (2, 1, 87), (3, 1, 96), (4, 1, 5), (5, 1, 5), (6, 1, 97), (7, 1, 98), (8, 1, 75), (9, 1, 99), (10, 1, 100)]) 11 48 [Value.int IntKind.u64 (0), Value.int IntKind.u64 (0), Value.int IntKind.u32 (0), Value.int IntKind.u8 (0), Value.int IntKind.u8 (0), Value.int IntKind.u8 (0), Value.int IntKind.u8 (0), Value.nilFunc, Value.pointer none, Value.int IntKind.i32 (0), Value.int IntKind.i32 (0)] true 11) := by kernel_rfl
theorem mixed : Tryd.prog.follows .mixedOrders = true := by kernel_rfl
set_option linter.defProp false in
/-- All of them. -/
def TY := And.intro @ty0 (And.intro @ty1 (And.intro @ty2 (And.intro @ty3 (And.intro @ty4 (And.intro @ty5 (And.intro @ty6 (And.intro @ty7 (And.intro @ty8 (And.intro @ty9 (And.intro @ty10 (And.intro @ty11 (And.intro @ty12 (And.intro @ty13 (And.intro @ty14 (And.intro @ty15 (And.intro @ty16 (And.intro @ty17 (And.intro @ty18 (And.intro @ty19 (And.intro @ty20 (And.intro @ty21 (And.intro @ty22 (And.intro @ty23 (And.intro @ty24 (And.intro @ty25 (And.intro @ty26 (And.intro @ty27 (And.intro @ty28 (And.intro @ty29 (And.intro @ty30 (And.intro @ty31 (And.intro @ty32 (And.intro @ty33 (And.intro @ty34 (And.intro @ty35 (And.intro @ty36 (And.intro @ty37 (And.intro @ty38 (And.intro @ty39 (And.intro @ty40 (And.intro @ty41 (And.intro @ty42 (And.intro @ty43 (And.intro @ty44 (And.intro @ty45 (And.intro @ty46 (And.intro @ty47 (And.intro @ty48 (And.intro @ty49 (And.intro @ty50 (And.intro @ty51 (And.intro @ty52 (And.intro @ty53 (And.intro @ty54 (And.intro @ty55 (And.intro @ty56 (And.intro @ty57 (And.intro @ty58 (And.intro @ty59 (And.intro @ty60 (And.intro @ty61 (And.intro @ty62 (And.intro @ty63 (And.intro @ty64 (And.intro @ty65 (And.intro @ty66 (And.intro @ty67 (And.intro @ty68 (And.intro @ty69 (And.intro @ty70 (And.intro @ty71 (And.intro @ty72 (And.intro @ty73 (And.intro @ty74 (And.intro @ty75 (And.intro @ty76 (And.intro @ty77 (And.intro @ty78 (And.intro @ty79 (And.intro @ty80 (And.intro @ty81 (And.intro @ty82 (And.intro @ty83 (And.intro @ty84 (And.intro @ty85 (And.intro @ty86 (And.intro @ty87 (And.intro @ty88 (And.intro @ty89 (And.intro @ty90 (And.intro @ty91 (And.intro @ty92 (And.intro @ty93 (And.intro @ty94 (And.intro @ty95 (And.intro @ty96 (And.intro @ty97 (And.intro @ty98 (And.intro @ty99 (And.intro @ty100 (And.intro @ty101 (@ty102))))))))))))))))))))))))))))))))))))))))))))))))))))))))))))))))))))))))))))))))))))))))))))))))))))))
end Go.Proofs.YtjgkodhadgfbmaaDoor.Ab
